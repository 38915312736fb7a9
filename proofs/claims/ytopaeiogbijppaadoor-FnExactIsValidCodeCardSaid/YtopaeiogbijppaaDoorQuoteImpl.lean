/- The walks of impl's quoteWith and QuoteText: what they return for every text of at most 2^20 bytes. -/
import Derived.Test.YtopaeiogbijppaaDoorQuote
import Derived.Deep.RegionHeld3
import Derived.Deep.DrawnRows
namespace Go.Proofs.YtopaeiogbijppaaDoor
open Go.RowKit
attribute [local go_sem ↓] Go.wp_at_zero Go.wp_at_succ

/-- 'append' as one step of a region that draws its order, onto a row of the call's own. -/
theorem step_append_own_at {P : Program} (w : World) {ops : Array Oper} {o : Oper} {a : Act} {K : Act → World → Prop} {Q : Exit → Act → World → Prop} {E : Prop} (hgd : o.guard = none) (s x : Operand) (t : TypeId)
    (ho : o.op = .call { callee := .builtin .append, args := #[s, x], argTypes := #[t, t] })
    (base : Nat) (e : TypeId) (i : TypeInfo) (z : Value) (size bytes : Nat) (ht : P.underlying t = some (.slice e)) (hi : P.info? e = some i) (hz : i.zero = some z)
    (hsize : i.size = size) (hby : i.bytes = bytes) (hzs : z.cells.size = size) (hsz : 0 < size)
    (v : Value) (n : Nat) (xs : List Value) (hs : a.eval s = v) (hown : w.ownsRow base e size v n xs)
    (ad : Addr) (m c : Nat) (news : List Value) (hx : a.eval x = .slice (some ad) m c) (hl : news.length = m * size) (hnews : ∀ j u, news[j]? = some u → w.cell? (ad.add j) = some u) (h1 : ∀ u ∈ news, u.oneCell' = true)
    (h63 : n + m ≤ maxLen) (hbytes : (n + m) * bytes ≤ 140737488355328) (hbase : base ≤ w.heap.size)
    (h : ∀ v' w', w'.ownsRow base e size v' (n + m) (xs ++ news) → w.grownBy w' v.ownBlock → K (a.put o.dst v') w') :
    if Region.wanted o (yielded ops a.tmps) = true then Oper.wp P o a w K Q else E := by
  have hw : Region.wanted o (yielded ops a.tmps) = true := by simp [Region.wanted, hgd]
  rw [if_pos hw]
  obtain ⟨v', w', hr, h2, h3, h4, h5⟩ := run_append_own_at (P := P) w base t o.type e i z size bytes ht hi hz hsize hby hzs hsz v n xs hown ad m c news hl hnews h1 h63 hbytes hbase
  unfold Oper.wp execOp
  simp only [ho, resolve, invoke, builtin, Sem.run_bind, Sem.run_pure, Result.andThen_ok, List.map_toArray, List.map_cons, List.map_nil, hs, hx, hr]
  exact h v' w' h2 h3

set_option maxRecDepth 100000 in
/-- A hexadecimal digit out of the program's constant. -/
theorem hex_index : ∀ (x : Int), 0 ≤ x → x < 16 → ∀ w, (Instr.index 9 (.string ⟨#[48, 49, 50, 51, 52, 53, 54, 55, 56, 57, 97, 98, 99, 100, 101, 102]⟩) (.int .u8 x)).run Tryd.prog w = .ok (.int .u8 (hexI x)) w := by
  intro x h0 h1 w
  obtain rfl | rfl | rfl | rfl | rfl | rfl | rfl | rfl | rfl | rfl | rfl | rfl | rfl | rfl | rfl | rfl : x = 0 ∨ x = 1 ∨ x = 2 ∨ x = 3 ∨ x = 4 ∨ x = 5 ∨ x = 6 ∨ x = 7 ∨ x = 8 ∨ x = 9 ∨ x = 10 ∨ x = 11 ∨ x = 12 ∨ x = 13 ∨ x = 14 ∨ x = 15 := by omega
  all_goals rfl

set_option maxRecDepth 100000 in
set_option maxHeartbeats 1600000 in
theorem quoteWith_any (s : ByteArray) (q : Int) (w : World) (hs : s.size ≤ 1048576) (hq0 : 0 ≤ q) (hq1 : q < 256) (hq2 : q = 34 ∨ q = 39) :
    Calls Tryd.prog 90 #[.string s, .int .u8 q] w fun e w' => e = .returned (.string (strOf (quoted q (ints s.data.toList)))) ∧ Below w.heap.size w w' := by
  obtain ⟨i0, hi0, hz0, hz1, hz2⟩ := info_parts info_byte
  have HQ := Lib.hid hq2
  clear hq2
  go_enter Tryd.func90, Tryd.ntmps90
  go_wp2
  go_loopw [5, 6] (fun v i wr => ∃ k : Nat, k ≤ s.size ∧ i = .int .i64 k ∧ wr.ownsRow w.heap.size 5 1 v (qpre q (ints (s.data.toList.take k))).length ((qpre q (ints (s.data.toList.take k))).map (Value.int .u8)) ∧ Below w.heap.size w wr) (fun _ i _ => s.size - (intOf i).toNat)
  case atStart =>
    exact ⟨0, Nat.zero_le _, rfl, quote_start q w s, (Below.refl _ _).alloc (Nat.le_refl _) _⟩
  case round =>
    obtain ⟨k, hk, rfl, hown, hbel⟩ := hrel
    have hsz := hbel.size
    have hl0 := qpre_len q (ints (s.data.toList.take k))
    have hl1 := ints_take_len s k hk
    have hl : (qpre q (ints (s.data.toList.take k))).length ≤ 4194305 := by omega
    clear hl0 hl1
    by_cases hlt : k < s.size
    · obtain ⟨c, hc⟩ : ∃ c : Int, (s[k].toNat : Int) = c := ⟨_, rfl⟩
      have hc0 : 0 ≤ c := by omega
      have hc1 : c < 256 := by have := s[k].toNat_lt; omega
      have R := Lib.hid (quote_rel (q := q) (w := w) hlt hc hsz hown hbel)
      by_cases e1 : c = q ∨ c = 92
      · have hqb := qb_esc q _ e1
        have R1 := Lib.hid (R.out [92, c] 2 hqb rfl (.cells #[.int .u8 92, .int .u8 c] 5))
        clear R hqb
        rcases e1 with e1 | e1
        · subst e1
          go_wp2_with (at_builtin; refine wpList_append_own _ rfl _ _ 77 rfl w.heap.size 5 i0 (.int .u8 0) 1 1 Tryd.underlying77 hi0 hz0 hz1 hz2 rfl (by decide) _ _ _ rfl (hown.alloc _) ⟨wr.heap.size, 0, none⟩ 2 2 [.int .u8 92, .int .u8 c] rfl rfl (news_two _ _ _ _) (by simp [Value.oneCell']) (by unfold maxLen; omega) (by omega) (by simp; omega) ?_; intro v' w1 hown' hgrow _)
          have R2 := R1.out v' w1 hown' hgrow
          go_roundw
          case rel => exact ⟨k + 1, by omega, by go_num, R2.1, R2.2⟩
          case measure => simp [intOf]; omega
        · subst e1
          have hne : ((92 : Int) == q) = false := by rcases HQ.out with h | h <;> subst h <;> rfl
          go_wp2_with (at_builtin; refine wpList_append_own _ rfl _ _ 77 rfl w.heap.size 5 i0 (.int .u8 0) 1 1 Tryd.underlying77 hi0 hz0 hz1 hz2 rfl (by decide) _ _ _ rfl (hown.alloc _) ⟨wr.heap.size, 0, none⟩ 2 2 [.int .u8 92, .int .u8 92] rfl rfl (news_two _ _ _ _) (by simp [Value.oneCell']) (by unfold maxLen; omega) (by omega) (by simp; omega) ?_; intro v' w1 hown' hgrow _)
          have R2 := R1.out v' w1 hown' hgrow
          go_roundw
          case rel => exact ⟨k + 1, by omega, by go_num, R2.1, R2.2⟩
          case measure => simp [intOf]; omega
      · have n1 : (c == q) = false := by simp; omega
        have n2 : (c == 92) = false := by simp; omega
        by_cases e2 : c = 10
        · have hqb := qb_n q _ e1 e2
          have R1 := Lib.hid (R.out [92, 110] 2 hqb rfl (.cells #[.int .u8 92, .int .u8 110] 5))
          clear R hqb e1
          subst e2
          go_wp2_with (at_builtin; refine wpList_append_own _ rfl _ _ 77 rfl w.heap.size 5 i0 (.int .u8 0) 1 1 Tryd.underlying77 hi0 hz0 hz1 hz2 rfl (by decide) _ _ _ rfl (hown.alloc _) ⟨wr.heap.size, 0, none⟩ 2 2 [.int .u8 92, .int .u8 110] rfl rfl (news_two _ _ _ _) (by simp [Value.oneCell']) (by unfold maxLen; omega) (by omega) (by simp; omega) ?_; intro v' w1 hown' hgrow _)
          have R2 := R1.out v' w1 hown' hgrow
          go_roundw
          case rel => exact ⟨k + 1, by omega, by go_num, R2.1, R2.2⟩
          case measure => simp [intOf]; omega
        · have n3 : (c == 10) = false := by simpa using e2
          by_cases e3 : c = 9
          · have hqb := qb_t q _ e1 e3
            have R1 := Lib.hid (R.out [92, 116] 2 hqb rfl (.cells #[.int .u8 92, .int .u8 116] 5))
            clear R hqb e1 e2
            subst e3
            go_wp2_with (at_builtin; refine wpList_append_own _ rfl _ _ 77 rfl w.heap.size 5 i0 (.int .u8 0) 1 1 Tryd.underlying77 hi0 hz0 hz1 hz2 rfl (by decide) _ _ _ rfl (hown.alloc _) ⟨wr.heap.size, 0, none⟩ 2 2 [.int .u8 92, .int .u8 116] rfl rfl (news_two _ _ _ _) (by simp [Value.oneCell']) (by unfold maxLen; omega) (by omega) (by simp; omega) ?_; intro v' w1 hown' hgrow _)
            have R2 := R1.out v' w1 hown' hgrow
            go_roundw
            case rel => exact ⟨k + 1, by omega, by go_num, R2.1, R2.2⟩
            case measure => simp [intOf]; omega
          · have n4 : (c == 9) = false := by simpa using e3
            by_cases e4 : c < 32 ∨ 126 < c
            · have hqb := qb_x q _ e1 e2 e3 e4
              have R1 := Lib.hid (R.out [92, 120, hexI (c / 16), hexI (c % 16)] 4 hqb rfl (.cells #[.int .u8 92, .int .u8 120, .int .u8 (hexI (c / 16)), .int .u8 (hexI (c % 16))] 5))
              clear R hqb e1 e2 e3
              rcases (show c < 32 ∨ (32 ≤ c ∧ 126 < c) by omega) with e5 | e5
              all_goals
                clear e4
                have hix1 := hex_index (c / 16) (by omega) (by omega)
                have hix2 := hex_index (c % 16) (by omega) (by omega)
                have hand : bits .and .u8 c 15 = c % 16 := u8_and15 c hc0 hc1
                go_wp2_with fail
                go_region_held3 (fun _ => True) (exact trivial) (first | (refine step_append_own_at _ (by rfl) (.tmp 54) (.tmp 61) 77 (by rfl) w.heap.size 5 i0 (.int .u8 0) 1 1 Tryd.underlying77 hi0 hz0 hz1 hz2 rfl (by decide) _ _ _ (by rfl) (hown.alloc _).drew ⟨wr.heap.size, 0, none⟩ 4 4 [.int .u8 92, .int .u8 120, .int .u8 (hexI (c / 16)), .int .u8 (hexI (c % 16))] (by rfl) rfl (news_four _ _ _ _ _ _) (by simp [Value.oneCell']) (by unfold maxLen; omega) (by omega) (by simp; omega) ?_; intro v' w1 hown' hgrow))
                all_goals
                  go_wp2_with fail
                  have R2 := R1.out v' w1 hown' ⟨hgrow.os, hgrow.tape, hgrow.output, hgrow.size, hgrow.block⟩
                  go_roundw
                  case rel => exact ⟨k + 1, by omega, by go_num, R2.1, R2.2⟩
                  case measure => simp [intOf]; omega
            · have hqb := qb_p q _ e1 e2 e3 e4
              have R1 := Lib.hid (R.out [c] 1 hqb rfl (.cells #[.int .u8 c] 5))
              have e5 : 32 ≤ c := by omega
              have e6 : c ≤ 126 := by omega
              clear R hqb e1 e2 e3 e4
              go_wp2_with (at_builtin; refine wpList_append_own _ rfl _ _ 77 rfl w.heap.size 5 i0 (.int .u8 0) 1 1 Tryd.underlying77 hi0 hz0 hz1 hz2 rfl (by decide) _ _ _ rfl (hown.alloc _) ⟨wr.heap.size, 0, none⟩ 1 1 [.int .u8 c] rfl rfl (cell_one_new _ _ _) (by simp [Value.oneCell']) (by unfold maxLen; omega) (by omega) (by simp; omega) ?_; intro v' w1 hown' hgrow _)
              have R2 := R1.out v' w1 hown' hgrow
              go_roundw
              case rel => exact ⟨k + 1, by omega, by go_num, R2.1, R2.2⟩
              case measure => simp [intOf]; omega
    · have hke : k = s.size := by omega
      have hall : s.data.toList.take k = s.data.toList := List.take_of_length_le (by simp; omega)
      rw [hall] at hown hl
      have Hall := Lib.hid hall
      clear hall
      go_wp2_with (at_builtin; refine wpList_append_lies _ rfl _ _ 77 rfl w.heap.size 5 i0 (.int .u8 0) 1 1 Tryd.underlying77 hi0 hz0 hz1 hz2 rfl (by decide) _ _ _ rfl (hown.alloc _) ⟨wr.heap.size, 0, none⟩ 1 1 [.int .u8 q] rfl rfl (cell_one_new _ _ _) (by simp [Value.oneCell']) (by omega) (by unfold maxLen; omega) (by omega) (by simp; omega) (wr.heap.size + 1) (by simp) ?_; intro g cap w1 hown' hgrow hat hlt'; have hcv := quote_end hown')
      go_ret
      exact ⟨rfl, (hbel.alloc hsz _).grown hgrow (by simp; omega) (fun g hg' => (hown.lt g hg').1)⟩

end Go.Proofs.YtopaeiogbijppaaDoor
