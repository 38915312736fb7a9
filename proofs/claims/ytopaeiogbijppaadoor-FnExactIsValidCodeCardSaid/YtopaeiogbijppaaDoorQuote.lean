/- The walks of spec's l4Hex, l4Quote and QuoteText: what they return for every text of at most 2^20 bytes. -/
import Derived.Test.YtopaeiogbijppaaDoorChecked
import Derived.Test.YtopaeiogbijppaaDoorBytes
import Derived.WalkKit
import Derived.WalkSpells
import Derived.WalkLawsBesides
import Derived.Maps.AppendAt
import Derived.Deep.AppendLies
import Derived.Lib.Hide
namespace Go.Proofs.YtopaeiogbijppaaDoor
open Go.RowKit

theorem info_byte : (Tryd.prog.info? 5).map (fun i => (i.zero, i.size, i.bytes)) = some (some (.int .u8 0), 1, 1) := by kernel_rfl

/-- 'string(out)' of a row of bytes that the call owns. -/
theorem run_string_own {w : World} {base g cap n : Nat} {ns : List Int} (hn : ns.length = n) (hown : w.ownsRow base 5 1 (.slice (some ⟨g, 0, none⟩) n cap) n (ns.map (Value.int .u8))) :
    (convert 77 9 (.slice (some ⟨g, 0, none⟩) n cap)).run Tryd.prog w = .ok (.string (strOf ns)) w := by
  subst hn
  rw [run_convert_bytes_string w 77 9 5 _ _ _ Tryd.underlying77 Tryd.underlying5 Tryd.underlying9]
  have hl := run_loadCells_list (P := Tryd.prog) w ⟨g, 0, none⟩ (ns.map (Value.int .u8)) (hown.cells (g := g) rfl)
  rw [List.length_map] at hl
  rw [run_bytesToString w ⟨g, 0, none⟩ ns.length cap ns hl, foldl_strOf]

theorem hexI_lo (x : Int) (h : x < 10) : hexI x = 48 + x := by unfold hexI; rw [if_pos h]
theorem hexI_hi (x : Int) (h : 10 ≤ x) : hexI x = 87 + x := by unfold hexI; rw [if_neg (by omega)]

set_option maxHeartbeats 400000 in
theorem l4Hex_any (x : Int) (w : World) (h0 : 0 ≤ x) (h1 : x < 16) :
    Calls Tryd.prog 98 #[.int .i64 x] w fun e w' => e = .returned (.int .u8 (hexI x)) ∧ w = w' := by
  by_cases h : x < 10
  · rw [hexI_lo x h]
    go_enter Tryd.func98, Tryd.ntmps98
    go_wp2
    go_ret
    exact ⟨rfl, rfl⟩
  · rw [hexI_hi x (by omega)]
    go_enter Tryd.func98, Tryd.ntmps98
    go_wp2
    go_ret
    exact ⟨rfl, rfl⟩

/-- One round of the loop that quotes: what the append of one byte's quoting leaves. -/
theorem quote_step {q c : Int} {s : ByteArray} {k : Nat} (hk : k < s.size) (hc : (s[k].toNat : Int) = c) : qpre q (ints (s.data.toList.take (k + 1))) = qpre q (ints (s.data.toList.take k)) ++ qb q c := by
  subst hc
  rw [List.take_succ_eq_append_getElem (by simpa using hk), ints_append, show ints [s.data.toList[k]'(by simpa using hk)] = [((s[k]).toNat : Int)] from rfl, qpre_snoc]

theorem news_two (w : World) (x y : Value) (t : TypeId) : ∀ j u, [x, y][j]? = some u → (w.alloc (.cells #[x, y] t)).cell? ((⟨w.heap.size, 0, none⟩ : Addr).add j) = some u :=
  World.news_of_block (heap_alloc_new w _)
theorem news_four (w : World) (x y z v : Value) (t : TypeId) : ∀ j u, [x, y, z, v][j]? = some u → (w.alloc (.cells #[x, y, z, v] t)).cell? ((⟨w.heap.size, 0, none⟩ : Addr).add j) = some u :=
  World.news_of_block (heap_alloc_new w _)

/-- What an append of one byte's quoting leaves of the loop's relation. -/
theorem quote_rel {q c : Int} {s : ByteArray} {k B : Nat} {w wr : World} {v : Value} (hk : k < s.size) (hc : (s[k].toNat : Int) = c) (hB : B ≤ wr.heap.size)
    (hv : wr.ownsRow B 5 1 v (qpre q (ints (s.data.toList.take k))).length ((qpre q (ints (s.data.toList.take k))).map (Value.int .u8))) (hbel : Below B w wr)
    (ns : List Int) (m : Nat) (hm : qb q c = ns) (hm2 : ns.length = m) (o : Obj) (v' : Value) (w1 : World)
    (hown' : w1.ownsRow B 5 1 v' ((qpre q (ints (s.data.toList.take k))).length + m) ((qpre q (ints (s.data.toList.take k))).map (Value.int .u8) ++ ns.map (Value.int .u8)))
    (hg : (wr.alloc o).grownBy w1 v.ownBlock) :
    w1.ownsRow B 5 1 v' (qpre q (ints (s.data.toList.take (k + 1)))).length ((qpre q (ints (s.data.toList.take (k + 1)))).map (Value.int .u8)) ∧ Below B w w1 := by
  subst hm2 hm
  rw [quote_step hk hc, List.length_append, List.map_append]
  exact ⟨hown', (hbel.alloc hB o).grown hg (by simp; omega) (fun g hg' => (hv.lt g hg').1)⟩

theorem quote_end {q : Int} {l : List Int} {w1 : World} {base g cap : Nat}
    (hown' : w1.ownsRow base 5 1 (.slice (some ⟨g, 0, none⟩) ((qpre q l).length + 1) cap) ((qpre q l).length + 1) ((qpre q l).map (Value.int .u8) ++ [.int .u8 q])) :
    (convert 77 9 (.slice (some ⟨g, 0, none⟩) ((qpre q l).length + 1) cap)).run Tryd.prog w1 = .ok (.string (strOf (quoted q l))) w1 :=
  run_string_own (by simp [quoted]) (by simpa [quoted] using hown')

theorem ints_take_len (s : ByteArray) (k : Nat) (h : k ≤ s.size) : (ints (s.data.toList.take k)).length = k := by
  simp [ints]; omega

theorem quote_start (q : Int) (w : World) (s : ByteArray) : (w.alloc (.cells #[.int .u8 q] 5)).ownsRow w.heap.size 5 1 (.slice (some ⟨w.heap.size, 0, none⟩) 1 1) (qpre q (ints (s.data.toList.take 0))).length ((qpre q (ints (s.data.toList.take 0))).map (Value.int .u8)) :=
  ⟨by simp, .inr ⟨w.heap.size, 1, #[.int .u8 q], by simp [qpre, ints], Nat.le_refl _, heap_alloc_new w _, by simp [qpre, ints], by unfold maxLen; omega, rfl, by simp [qpre, ints]⟩⟩

set_option maxRecDepth 100000 in
set_option maxHeartbeats 1600000 in
theorem l4Quote_any (s : ByteArray) (q : Int) (w : World) (hs : s.size ≤ 1048576) (hq0 : 0 ≤ q) (hq1 : q < 256) (hq2 : q = 34 ∨ q = 39) :
    Calls Tryd.prog 82 #[.string s, .int .u8 q] w fun e w' => e = .returned (.string (strOf (quoted q (ints s.data.toList)))) ∧ Below w.heap.size w w' := by
  obtain ⟨i0, hi0, hz0, hz1, hz2⟩ := info_parts info_byte
  have HQ := Lib.hid hq2
  clear hq2
  go_enter Tryd.func82, Tryd.ntmps82
  go_wp2
  go_loopw [5, 6] (fun v i wr => ∃ k : Nat, k ≤ s.size ∧ i = .int .i64 k ∧ wr.ownsRow w.heap.size 5 1 v (qpre q (ints (s.data.toList.take k))).length ((qpre q (ints (s.data.toList.take k))).map (Value.int .u8)) ∧ Below w.heap.size w wr) (fun _ i _ => s.size - (intOf i).toNat)
  case atStart =>
    exact ⟨0, Nat.zero_le _, rfl, quote_start q w s, (Below.refl _ _).alloc (Nat.le_refl _) _⟩
  case round =>
    obtain ⟨k, hk, rfl, hown, hbel⟩ := hrel
    have hsz := hbel.size
    have hl0 := qpre_len q (ints (s.data.toList.take k))
    have hl1 := ints_take_len s k hk
    have hl : (qpre q (ints (s.data.toList.take k))).length ≤ 4194305 := by omega
    clear hl0 hl1
    by_cases hlt : k < s.size
    · obtain ⟨c, hc⟩ : ∃ c : Int, (s[k].toNat : Int) = c := ⟨_, rfl⟩
      have hc0 : 0 ≤ c := by omega
      have hc1 : c < 256 := by have := s[k].toNat_lt; omega
      have R := Lib.hid (quote_rel (q := q) (w := w) hlt hc hsz hown hbel)
      by_cases e1 : c = q ∨ c = 92
      · have hqb := qb_esc q _ e1
        have R1 := Lib.hid (R.out [92, c] 2 hqb rfl (.cells #[.int .u8 92, .int .u8 c] 5))
        clear R hqb
        rcases e1 with e1 | e1
        · subst e1
          go_wp2_with (first | (go_at_call 98; refine (l4Hex_any _ _ (by omega) (by omega)).mono ?_; rintro e w' ⟨rfl, rfl⟩) | (at_builtin; refine wpList_append_own _ rfl _ _ 77 rfl w.heap.size 5 i0 (.int .u8 0) 1 1 Tryd.underlying77 hi0 hz0 hz1 hz2 rfl (by decide) _ _ _ rfl (hown.alloc _) ⟨wr.heap.size, 0, none⟩ 2 2 [.int .u8 92, .int .u8 c] rfl rfl (news_two _ _ _ _) (by simp [Value.oneCell']) (by unfold maxLen; omega) (by omega) (by simp; omega) ?_; intro v' w1 hown' hgrow _))
          have R2 := R1.out v' w1 hown' hgrow
          go_roundw
          case rel => exact ⟨k + 1, by omega, by go_num, R2.1, R2.2⟩
          case measure => simp [intOf]; omega
        · subst e1
          have hne : ((92 : Int) == q) = false := by rcases HQ.out with h | h <;> subst h <;> rfl
          go_wp2_with (first | (go_at_call 98; refine (l4Hex_any _ _ (by omega) (by omega)).mono ?_; rintro e w' ⟨rfl, rfl⟩) | (at_builtin; refine wpList_append_own _ rfl _ _ 77 rfl w.heap.size 5 i0 (.int .u8 0) 1 1 Tryd.underlying77 hi0 hz0 hz1 hz2 rfl (by decide) _ _ _ rfl (hown.alloc _) ⟨wr.heap.size, 0, none⟩ 2 2 [.int .u8 92, .int .u8 92] rfl rfl (news_two _ _ _ _) (by simp [Value.oneCell']) (by unfold maxLen; omega) (by omega) (by simp; omega) ?_; intro v' w1 hown' hgrow _))
          have R2 := R1.out v' w1 hown' hgrow
          go_roundw
          case rel => exact ⟨k + 1, by omega, by go_num, R2.1, R2.2⟩
          case measure => simp [intOf]; omega
      · have n1 : (c == q) = false := by simp; omega
        have n2 : (c == 92) = false := by simp; omega
        by_cases e2 : c = 10
        · have hqb := qb_n q _ e1 e2
          have R1 := Lib.hid (R.out [92, 110] 2 hqb rfl (.cells #[.int .u8 92, .int .u8 110] 5))
          clear R hqb e1
          subst e2
          go_wp2_with (first | (go_at_call 98; refine (l4Hex_any _ _ (by omega) (by omega)).mono ?_; rintro e w' ⟨rfl, rfl⟩) | (at_builtin; refine wpList_append_own _ rfl _ _ 77 rfl w.heap.size 5 i0 (.int .u8 0) 1 1 Tryd.underlying77 hi0 hz0 hz1 hz2 rfl (by decide) _ _ _ rfl (hown.alloc _) ⟨wr.heap.size, 0, none⟩ 2 2 [.int .u8 92, .int .u8 110] rfl rfl (news_two _ _ _ _) (by simp [Value.oneCell']) (by unfold maxLen; omega) (by omega) (by simp; omega) ?_; intro v' w1 hown' hgrow _))
          have R2 := R1.out v' w1 hown' hgrow
          go_roundw
          case rel => exact ⟨k + 1, by omega, by go_num, R2.1, R2.2⟩
          case measure => simp [intOf]; omega
        · have n3 : (c == 10) = false := by simpa using e2
          by_cases e3 : c = 9
          · have hqb := qb_t q _ e1 e3
            have R1 := Lib.hid (R.out [92, 116] 2 hqb rfl (.cells #[.int .u8 92, .int .u8 116] 5))
            clear R hqb e1 e2
            subst e3
            go_wp2_with (first | (go_at_call 98; refine (l4Hex_any _ _ (by omega) (by omega)).mono ?_; rintro e w' ⟨rfl, rfl⟩) | (at_builtin; refine wpList_append_own _ rfl _ _ 77 rfl w.heap.size 5 i0 (.int .u8 0) 1 1 Tryd.underlying77 hi0 hz0 hz1 hz2 rfl (by decide) _ _ _ rfl (hown.alloc _) ⟨wr.heap.size, 0, none⟩ 2 2 [.int .u8 92, .int .u8 116] rfl rfl (news_two _ _ _ _) (by simp [Value.oneCell']) (by unfold maxLen; omega) (by omega) (by simp; omega) ?_; intro v' w1 hown' hgrow _))
            have R2 := R1.out v' w1 hown' hgrow
            go_roundw
            case rel => exact ⟨k + 1, by omega, by go_num, R2.1, R2.2⟩
            case measure => simp [intOf]; omega
          · have n4 : (c == 9) = false := by simpa using e3
            by_cases e4 : c < 32 ∨ 126 < c
            · have hqb := qb_x q _ e1 e2 e3 e4
              have R1 := Lib.hid (R.out [92, 120, hexI (c / 16), hexI (c % 16)] 4 hqb rfl (.cells #[.int .u8 92, .int .u8 120, .int .u8 (hexI (c / 16)), .int .u8 (hexI (c % 16))] 5))
              clear R hqb e1 e2 e3
              rcases (show c < 32 ∨ (32 ≤ c ∧ 126 < c) by omega) with e5 | e5
              all_goals
                clear e4
                go_wp2_with (first | (go_at_call 98; refine (l4Hex_any _ _ (by omega) (by omega)).mono ?_; rintro e w' ⟨rfl, rfl⟩) | (at_builtin; refine wpList_append_own _ rfl _ _ 77 rfl w.heap.size 5 i0 (.int .u8 0) 1 1 Tryd.underlying77 hi0 hz0 hz1 hz2 rfl (by decide) _ _ _ rfl (hown.alloc _) ⟨wr.heap.size, 0, none⟩ 4 4 [.int .u8 92, .int .u8 120, .int .u8 (hexI (c / 16)), .int .u8 (hexI (c % 16))] rfl rfl (news_four _ _ _ _ _ _) (by simp [Value.oneCell']) (by unfold maxLen; omega) (by omega) (by simp; omega) ?_; intro v' w1 hown' hgrow _))
                have R2 := R1.out v' w1 hown' hgrow
                go_roundw
                case rel => exact ⟨k + 1, by omega, by go_num, R2.1, R2.2⟩
                case measure => simp [intOf]; omega
            · have hqb := qb_p q _ e1 e2 e3 e4
              have R1 := Lib.hid (R.out [c] 1 hqb rfl (.cells #[.int .u8 c] 5))
              have e5 : 32 ≤ c := by omega
              have e6 : c ≤ 126 := by omega
              clear R hqb e1 e2 e3 e4
              go_wp2_with (first | (go_at_call 98; refine (l4Hex_any _ _ (by omega) (by omega)).mono ?_; rintro e w' ⟨rfl, rfl⟩) | (at_builtin; refine wpList_append_own _ rfl _ _ 77 rfl w.heap.size 5 i0 (.int .u8 0) 1 1 Tryd.underlying77 hi0 hz0 hz1 hz2 rfl (by decide) _ _ _ rfl (hown.alloc _) ⟨wr.heap.size, 0, none⟩ 1 1 [.int .u8 c] rfl rfl (cell_one_new _ _ _) (by simp [Value.oneCell']) (by unfold maxLen; omega) (by omega) (by simp; omega) ?_; intro v' w1 hown' hgrow _))
              have R2 := R1.out v' w1 hown' hgrow
              go_roundw
              case rel => exact ⟨k + 1, by omega, by go_num, R2.1, R2.2⟩
              case measure => simp [intOf]; omega
    · have hke : k = s.size := by omega
      have hall : s.data.toList.take k = s.data.toList := List.take_of_length_le (by simp; omega)
      rw [hall] at hown hl
      have Hall := Lib.hid hall
      clear hall
      go_wp2_with (at_builtin; refine wpList_append_lies _ rfl _ _ 77 rfl w.heap.size 5 i0 (.int .u8 0) 1 1 Tryd.underlying77 hi0 hz0 hz1 hz2 rfl (by decide) _ _ _ rfl (hown.alloc _) ⟨wr.heap.size, 0, none⟩ 1 1 [.int .u8 q] rfl rfl (cell_one_new _ _ _) (by simp [Value.oneCell']) (by omega) (by unfold maxLen; omega) (by omega) (by simp; omega) (wr.heap.size + 1) (by simp) ?_; intro g cap w1 hown' hgrow hat hlt'; have hcv := quote_end hown')
      go_ret
      exact ⟨rfl, (hbel.alloc hsz _).grown hgrow (by simp; omega) (fun g hg' => (hown.lt g hg').1)⟩

end Go.Proofs.YtopaeiogbijppaaDoor
