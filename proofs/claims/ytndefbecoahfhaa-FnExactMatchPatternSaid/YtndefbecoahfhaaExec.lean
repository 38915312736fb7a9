/- impl's match and execute do what the plain machine's step does. -/
import Derived.Test.YtndefbecoahfhaaMatchA
import Derived.Test.YtndefbecoahfhaaMatchB
import Derived.Test.YtndefbecoahfhaaMatchC
import Derived.Test.YtndefbecoahfhaaMatchD
import Derived.Test.YtndefbecoahfhaaMatchE
import Derived.Test.YtndefbecoahfhaaMatchF
import Derived.Test.YtndefbecoahfhaaMatchG
import Derived.Test.YtndefbecoahfhaaExecA
import Derived.Test.YtndefbecoahfhaaExecB
namespace Go.Proofs.Ytndefbecoahfhaa
open Go.RowKit

theorem stepMatch_simple {defs : List Pat} {s : ByteArray} {p : Pat} {gs : List Goal} {m : Mst} (h : isSimple p.op) :
    stepMatch defs s p gs m = match oneEnd p.op p.text p.num p.lo p.hi s m.at_ with
      | some e => .go gs { m with at_ := e }
      | none => .fail := by
  unfold isSimple at h
  unfold stepMatch
  rw [if_neg (by omega), if_neg (by omega), if_neg (by omega), if_neg (by omega), if_neg (by omega), if_neg (by omega), if_neg (by omega), if_neg (by omega), if_neg (by omega), if_neg (by omega)]
  cases oneEnd p.op p.text p.num p.lo p.hi s m.at_ <;> rfl

theorem match_any {w0 w : World} {M : Nat} {dA : Option Addr} {dc : Nat} {s : ByteArray} {n : Nat} {m : Mst} {cv ev hv : Value} {hs : List Value} {defs : List Pat} {k : Nat} {p : Pat} {gs : List Goal} {gv : Value}
    (h : ImplAt w0 w M (.slice dA defs.length dc) s n m cv ev hv hs) (hg : GoalsAt w0 w (⟨0, p, 0⟩ :: gs) gv) (hok : Ok defs s k (⟨0, p, 0⟩ :: gs) m) (hk : k ≤ 5000) (hd : DefsOk defs) (hdefs : RowIn w0 dA 0 defs) (hss : s.size ≤ 120) :
    Calls Try.prog 68 #[.pointer (some ⟨M, 0, none⟩), gv] w (Did w0 M (.slice dA defs.length dc) s n m (stepMatch defs s p gs m)) := by
  obtain ⟨b, kv, nv, rfl, hb, hkid, hnv⟩ := hg
  obtain ⟨A, c, rfl, _, _⟩ := hkid.form
  have hv := hok.goals.head.val
  have hat := hok.at_
  have h1 := hok.nch
  have h2 := hok.nev
  have hops := (valid_kids hv).1
  obtain ⟨op, text, num, lo, hi, kids⟩ := p
  have ht : op = 11 ∨ op = 13 ∨ op = 14 ∨ op = 15 ∨ op = 16 ∨ op = 17 ∨ op = 18 ∨ op = 19 ∨ op = 20 ∨ op = 21 ∨ isSimple op := by
    simp only [Pat.op] at hops
    unfold isSimple
    omega
  rcases ht with rfl | rfl | rfl | rfl | rfl | rfl | rfl | rfl | rfl | rfl | hsi
  · by_cases hlt : m.at_ < s.size
    · rw [show stepMatch defs s (.mk 11 text num lo hi kids) gs m = .go gs (m.choose (⟨0, .mk 11 text num lo hi kids, 0⟩ :: gs) (m.at_ + 1)) by show Out.go gs (if m.at_ < s.size then _ else _) = _; rw [if_pos hlt]]
      exact match_arb_yes h hb hkid hnv hlt (by omega) hss rfl
    · rw [show stepMatch defs s (.mk 11 text num lo hi kids) gs m = .go gs m by show Out.go gs (if m.at_ < s.size then _ else _) = _; rw [if_neg hlt]]
      exact match_arb_no h hb hnv hlt
  · have hl := kids_one hv (.inl rfl)
    match kids, hl with
    | [k0], _ => exact match_arbno h hb hkid hnv (by omega)
  · have hl := kids_two hv (.inl rfl)
    match kids, hl with
    | [k0, k1], _ => exact match_cat h hb hkid hnv
  · have hl := kids_two hv (.inr rfl)
    match kids, hl with
    | [k0, k1], _ => exact match_alt h hb hkid hnv (by omega)
  · have hl := kids_one hv (.inr (.inl rfl))
    match kids, hl with
    | [k0], _ => exact match_assign h hb hkid hnv
  · have hl := kids_one hv (.inr (.inr rfl))
    match kids, hl with
    | [k0], _ => exact match_immediate h hb hkid hnv
  · exact match_cursor h hb hnv (by omega)
  · exact match_fence h hb hnv (by omega)
  · have hn := valid_var hv (.inr (.inr (.inr rfl)))
    have hn0 : 0 ≤ num := hn.1
    have hn1 : num < (defs.length : Int) := hn.2
    have hlt : num.toNat < defs.length := by omega
    rw [show stepMatch defs s (.mk 20 text num lo hi kids) gs m = .go (⟨0, defs[num.toNat], 0⟩ :: gs) m by
      show Out.go (⟨0, defs.getD num.toNat _, 0⟩ :: gs) m = _
      simp [List.getD, hlt]]
    exact match_defer (num := num) h hb hnv (Int.toNat_of_nonneg hn0).symm hlt rfl hdefs
  · exact match_abort h hb hnv
  · rw [stepMatch_simple (p := .mk op text num lo hi kids) hsi]
    have hw := valid_words hv
    simp only [Pat.op, Pat.text, Pat.num] at hw
    cases hz : oneEnd op text num lo hi s m.at_ with
    | some z =>
      simp only [Pat.op, Pat.text, Pat.num, Pat.lo, Pat.hi, hz]
      exact match_some h hb hnv hsi hw hss hat hz
    | none =>
      simp only [Pat.op, Pat.text, Pat.num, Pat.lo, Pat.hi, hz]
      exact match_none h hb hnv hsi hw hss hat hz

set_option maxRecDepth 100000 in
set_option maxHeartbeats 1000000 in
theorem exec_match {w0 w : World} {M : Nat} {dv : Value} {s : ByteArray} {n : Nat} {m : Mst} {o : Out} {v1 v2 v3 v4 v5 v6 v7 v8 : Value} {b : Nat}
    (hb : w.heap[b]? = some (.cells #[.int .i64 0, v1, v2, v3, v4, v5, v6, v7, v8] TG (0, 0)))
    (h : Calls Try.prog 68 #[.pointer (some ⟨M, 0, none⟩), .pointer (some ⟨b, 0, none⟩)] w (Did w0 M dv s n m o)) :
    Calls Try.prog 38 #[.pointer (some ⟨M, 0, none⟩), .pointer (some ⟨b, 0, none⟩)] w (Did w0 M dv s n m o) := by
  have b0 := cell_of_row w b 0 _ _ _ hb
  simp at b0
  have H := Lib.hid h
  clear h hb
  cases o with
  | go gs' m' =>
    go_enter Try.func38, Try.ntmps38
    go_wp2_with fail
    refine H.out.mono ?_
    rintro e w' ⟨gv, cv, ev, hv, hs, rfl, h1, h2⟩
    have H1 := Lib.hid h1
    have H2 := Lib.hid h2
    clear h1 h2
    go_wp2_with fail
    go_ret3
    exact did_go H1.out H2.out
  | fail =>
    go_enter Try.func38, Try.ntmps38
    go_wp2_with fail
    refine H.out.mono ?_
    rintro e w' ⟨p, cv, ev, hv, hs, rfl, h2⟩
    have H2 := Lib.hid h2
    clear h2
    go_wp2_with fail
    go_ret3
    exact did_fail H2.out
  | stop =>
    go_enter Try.func38, Try.ntmps38
    go_wp2_with fail
    refine H.out.mono ?_
    rintro e w' ⟨cv, ev, hv, hs, rfl, h2⟩
    have H2 := Lib.hid h2
    clear h2
    go_wp2_with fail
    go_ret3
    exact did_stop H2.out

theorem execute_any {w0 w : World} {M : Nat} {dA : Option Addr} {dc : Nat} {s : ByteArray} {n : Nat} {m : Mst} {cv ev hv : Value} {hs : List Value} {defs : List Pat} {k : Nat} {g : Goal} {gs : List Goal} {gv : Value}
    (h : ImplAt w0 w M (.slice dA defs.length dc) s n m cv ev hv hs) (hg : GoalsAt w0 w (g :: gs) gv) (hok : Ok defs s k (g :: gs) m) (hk : k ≤ 5000) (hd : DefsOk defs) (hdefs : RowIn w0 dA 0 defs) (hss : s.size ≤ 120) :
    Calls Try.prog 38 #[.pointer (some ⟨M, 0, none⟩), gv] w (Did w0 M (.slice dA defs.length dc) s n m (step defs s g gs m)) := by
  have hg' := hg
  obtain ⟨b, kv, nv, rfl, hb, hkid, hnv⟩ := hg
  obtain ⟨A, c, rfl, _, _⟩ := hkid.form
  have hv := hok.goals.head.val
  have h1 := hok.ncap
  have h2 := hok.nev
  obtain ⟨kind, p, fr⟩ := g
  have hkind := hok.goals.head.kind
  simp only at hkind hv
  rcases hkind with ⟨rfl, rfl⟩ | ⟨rfl, ho⟩ | ⟨rfl, ho⟩ | ⟨rfl, ho⟩ | ⟨rfl, ho⟩
  · exact exec_match hb (match_any h hg' hok hk hd hdefs hss)
  · obtain ⟨op, text, num, lo, hi, kids⟩ := p
    exact exec_cap h hb hnv (by omega)
  · obtain ⟨op, text, num, lo, hi, kids⟩ := p
    exact exec_event h hb hnv (by omega)
  · have hl := kids_one hv (.inl ho)
    obtain ⟨op, text, num, lo, hi, kids⟩ := p
    match kids, hl with
    | [k0], _ => exact exec_extend h hb hkid hnv
  · obtain ⟨op, text, num, lo, hi, kids⟩ := p
    by_cases hf : (m.at_ : Int) = fr
    · rw [show step defs s ⟨4, .mk op text num lo hi kids, fr⟩ gs m = .fail by show (if (m.at_ : Int) = fr then Out.fail else _) = _; rw [if_pos hf]]
      exact exec_check_fail h hb hkid hnv (by simp [hf])
    · rw [show step defs s ⟨4, .mk op text num lo hi kids, fr⟩ gs m = .go (⟨0, .mk op text num lo hi kids, 0⟩ :: gs) m by show (if (m.at_ : Int) = fr then Out.fail else _) = _; rw [if_neg hf]]
      exact exec_check_go h hb hkid hnv (by simp [hf])

end Go.Proofs.Ytndefbecoahfhaa
