/- Part of the walks that the claim stands on. -/
import Derived.Test.YtcmmdchjppaimaaGreatDoorS2
import Derived.Test.YtcmmdchjppaimaaGreatDoorS1
import Derived.Deep.DeepCutAuto
import Derived.Test.YtcmmdchjppaimaaGreatDoorChecked
import Derived.WalkKit
import Derived.WalkSpells
import Derived.WalkLawsBesides
import Derived.Maps.AppendAt
import Derived.Deep.AppendLies
import Derived.Lib.Hide
import Derived.Deep.CutBlock
set_option maxRecDepth 1000000
set_option maxHeartbeats 40000000
namespace Go.Proofs.YtcmmdchjppaimaaGreatDoor
open Go.RowKit
theorem Zeo {α : Type} (cnt sz : α → Nat) (c d : Nat) (h : ∀ a, cnt a ≤ c + d * sz a) (hcd : c ≤ d) : ∀ l : List α, Zh cnt l ≤ d * Zv sz l
 | [] => Nat.zero_le _
 | a :: l => by
  have h1 := Zeo cnt sz c d h hcd l;have h2 := h a;simp only [Zv, Zh, Za8, List.length_cons, Nat.mul_add, Nat.mul_one] at *
  omega
theorem Zgn {α : Type} (c : Nat) : ∀ l : List α, Zh (fun _ => c) l = c * l.length
 | [] => rfl
 | a :: l => by simp only [Zh, Zgn c l, List.length_cons, Nat.mul_add, Nat.mul_one]; omega
theorem Zhd (l : List ByteArray) : Zh (fun _ => 1) l ≤ 1 * Zv ByteArray.size l := Zeo _ _ 1 1 (fun _ => by omega) (by omega) l
theorem Znv (l : List Zam) : Zh Zl l ≤ 2 * Zv Zo l := Zeo _ _ 2 2 (fun r => by
 have := Zhd r.fields;simp only [Zl, Zo]
 omega) (by omega) l
theorem Znw : ∀ (n : Nat) (c : Zd), Zk1 n c ≤ 5 + 5 * szN n c
 | 0, _ => Nat.zero_le _
 | n + 1, c => by
  have := Zeo (Zk1 n) (szN n) 5 5 (Znw n) (by omega) c.kids;simp only [Zk1, szN, Zcv, Za2]
  omega
theorem Zmt (n : Nat) (l : List Zaw) : Zh (Zat (Zk1 n)) l ≤ 7 * Zv (Zy (szN n)) l := Zeo _ _ 7 7 (fun r => by
 have h1 := Zhd r.slots;have h2 := Zeo (Zk1 n) (szN n) 5 5 (Znw n) (by omega) r.body.kids;simp only [Zat, Zy, Za2]
 omega) (by omega) l
theorem Znx (n : Nat) (p : Zu) : Zcr (Zk1 n) p ≤ 7 * Zab (szN n) p := by
 have h1 := Zmt n p.routines;have h2 := Znv p.aA;have h3 := Zhd p.globals;simp only [Zcr, Zab]
 omega
theorem Zqe (n : Nat) (N : Nat) (p : Zu) : Zb8 (Zfz (N + 1) p).1 ≤ 400000 + 3 * Zab (szN n) p := by
 unfold Zfz
 split
 ·rename_i h;have hr := (Zhg.rts h).n
  split
  ·simp [Zb8, cdZ, Zh]
  ·rename_i h2;have h3 := Zgn 4 (Za5 (cg (N + 1)) p.routines 0).1;have h4 := Zgn 5 (Za5 (cg (N + 1)) p.routines 0).2;rw [Ziw] at h3;have h5 := Znv p.aA;have h6 := Zhd p.globals;have e3 : Zh Zn (Za5 (cg (N + 1)) p.routines 0).1 = Zh (fun _ => 4) (Za5 (cg (N + 1)) p.routines 0).1 := rfl;have e4 : Zh Zal (Za5 (cg (N + 1)) p.routines 0).2 = Zh (fun _ => 5) (Za5 (cg (N + 1)) p.routines 0).2 := rfl;simp only [Zb8, Zab]
   omega
 ·simp [Zb8, cdZ, Zh]
theorem Zny (sz : Zd → Nat) : ∀ (l : List Zd), (∀ x ∈ l, Z0 x ≤ sz x + 1) → Zx l ≤ Zv sz l
 | [], _ => by simp [Zx]
 | a :: l, h => by
  have h1 := h a (by simp);have h2 := Zny sz l (fun x hx => h x (by simp [hx]));simp only [Zv, Za8, Zx, List.length_cons] at *
  omega
theorem Znz {F : Nat → Prop} {w : World} : ∀ (n : Nat) (l : List Zd) (v : Value), Z5 (Zds n) 6 F w l v → Zx l ≤ Zv (szN n) l
 | 0, l, v, h => by
  obtain ⟨A, c, _, _, _, hel⟩ := h
  cases l with
  | nil => simp [Zx]
  | cons a l =>
   obtain ⟨_, _, _, _, _, _, hE, _⟩ := hel 0 (by simp);exact hE.elim
 | n + 1, l, v, h => by
  obtain ⟨A, c, _, _, _, hel⟩ := h;refine Zny _ _ fun x hx => ?_;obtain ⟨i, hi, rfl⟩ := List.getElem_of_mem hx;obtain ⟨_, _, _, _, _, _, ⟨vk, _, _, _, _, _, _, hk⟩, _⟩ := hel i hi;have := Znz n _ _ hk;rw [Zq];simp only [szN, Za2]
  omega
theorem Zk2 (sz : Zaw → Nat) : ∀ (l : List Zaw), (∀ x ∈ l, Z0 x.body ≤ sz x + 1) → Zb4 l ≤ Zv sz l
 | [], _ => by simp [Zb4]
 | a :: l, h => by
  have h1 := h a (by simp);have h2 := Zk2 sz l (fun x hx => h x (by simp [hx]));simp only [Zv, Za8, Zb4, List.length_cons] at *
  omega
theorem Zpl {F : Nat → Prop} {w : World} {n : Nat} {l : List Zaw} {v : Value} (h : Z5 (Zby (Zds n)) 9 F w l v) : Zb4 l ≤ Zv (Zy (szN n)) l := by
 obtain ⟨A, c, _, _, _, hel⟩ := h;refine Zk2 _ _ fun x hx => ?_;obtain ⟨i, hi, rfl⟩ := List.getElem_of_mem hx;obtain ⟨_, _, _, _, _, _, ⟨vs, vk, _, _, _, _, _, _, _, _, _, hk⟩, _⟩ := hel i hi;have := Znz n _ _ hk;rw [Zq];simp only [Zy, Za2]
 omega
theorem Zmu (n : Nat) (IH : ∀ n', n = n' + 1 → Zb7 n') (w : World) (CB : Nat) (G : Nat → Prop) (L : List Ze) (lp : Option Zr) (lv : Value) (LB : Nat) (E : Nat → Prop) (ex : List Nat) (F : Nat → Prop) (c : Zd) (cb co : Nat) (A : Option Addr) (k m : Nat) (HP : Hd (Zbm n w CB G L lp lv LB E ex F c cb co A k m)) (ho : c.kind < 11) (hle : L.length ≤ 60000) :
  Calls Tryz.prog 140 #[.pointer (some ⟨CB, 0, none⟩), .pointer (some ⟨cb, co, none⟩), .int .i64 m, lv] w (Zbk n w CB G L lp lv LB E ex c m) := by
 have HO := zh ho;obtain ⟨L0, iv, ov, hi⟩ := HP.o.ks.im;obtain ⟨rfl, e0⟩ := hi.not_over hle;rw [e0] at hi;obtain ⟨Ai, ci, rfl, -⟩ := id hi.row;have b0 := cz2 hi.blk;have fb0 := fz hi.blk;clear hi e0 L0;have HKS := zh HP.o.ks;have HN3 := zh HP.o.ca.n3;have hmb : m ≤ 1000000 := by have := HP.o.mb; omega
 have tm1 : IntKind.i64.wrap ((m : Int) + 1) = ((m + 1 : Nat) : Int) := by rw [IntWalk.i64_in _ (by omega)]; rfl
 have c0 := HP.o.ca.c0;have c3 := HP.o.ca.c3;have c5 := HP.o.ca.c5;have c2 := HP.o.ca.c2;have c4 := HP.o.ca.c4;have hk1 := HP.o.ok.1;have t20 : (c.kind == 20) = false := nH.2 (by omega);have t21 : (c.kind == 21) = false := nH.2 (by omega);have t22 : (c.kind == 22) = false := nH.2 (by omega);have t23 : (c.kind == 23) = false := nH.2 (by omega);have t24 : (c.kind == 24) = false := nH.2 (by omega);have t25 : (c.kind == 25) = false := nH.2 (by omega);have t26 : (c.kind == 26) = false := nH.2 (by omega);have t27 : (c.kind == 27) = false := nH.2 (by omega);clear hk1 ho;go_enter Tryz.func140, Tryz.ntmps140;go_upto_region 3 with (fail);refine Z3 [14] [] (by kernel_rfl) (fun W hW => ?_);have hlW : Za w W := by rw [hW]; exact (Za.refl _).drew
 clear hW c0 c2 c3 c4 c5 b0 fb0;have HKW := zh (HKS.o.later hlW);have HCA := zh (HP.o.ca.keep (fun _ h => h) (Zb.later hlW));clear hlW;refine tU 0 25 (v := ?_) rfl rfl (fun x hx => ?_) ?_;rotate_left
 ·go_simp;first|done|with_reducible rfl
 simp only [Act.put, nA, nB, nC];refine tU 1 26 (v := ?_) rfl rfl (fun x hx => ?_) ?_;rotate_left
 ·go_simp;first|done|with_reducible rfl
 simp only [Act.put, nA, nB, nC];refine tU 2 27 (v := ?_) rfl rfl (fun x hx => ?_) ?_;rotate_left
 ·go_simp;first|done|with_reducible rfl
 simp only [Act.put, nA, nB, nC];refine tU 3 28 (v := ?_) rfl rfl (fun x hx => ?_) ?_;rotate_left
 ·go_simp;first|done|with_reducible rfl
 simp only [Act.put, nA, nB, nC];refine tU 4 29 (v := ?_) rfl rfl (fun x hx => ?_) ?_;rotate_left
 ·have hca := HCA.o.keep (fun _ h => h) (Zb.later hx); have c0 := hca.c0; have c2 := hca.c2; have c4 := hca.c4; go_simp;first|done|with_reducible rfl
 simp only [Act.put, nA, nB, nC];refine tU 5 30 (v := ?_) rfl rfl (fun x hx => ?_) ?_;rotate_left
 ·go_simp;first|done|with_reducible rfl
 simp only [Act.put, nA, nB, nC];refine tU 6 31 (v := ?_) rfl rfl (fun x hx => ?_) ?_;rotate_left
 ·go_simp;first|done|with_reducible rfl
 simp only [Act.put, nA, nB, nC];refine tU 7 32 (v := ?_) rfl rfl (fun x hx => ?_) ?_;rotate_left
 ·go_simp;first|done|with_reducible rfl
 simp only [Act.put, nA, nB, nC];refine tU 8 33 (v := ?_) rfl rfl (fun x hx => ?_) ?_;rotate_left
 ·have hca := HCA.o.keep (fun _ h => h) (Zb.later hx); have c0 := hca.c0; have c2 := hca.c2; have c4 := hca.c4; go_simp;first|done|with_reducible rfl
 simp only [Act.put, nA, nB, nC];refine tU 9 34 (v := ?_) rfl rfl (fun x hx => ?_) ?_;rotate_left
 ·go_simp;first|done|with_reducible rfl
 simp only [Act.put, nA, nB, nC];refine tU 10 35 (v := ?_) rfl rfl (fun x hx => ?_) ?_;rotate_left
 ·go_simp;first|done|with_reducible rfl
 simp only [Act.put, nA, nB, nC];refine tU 11 36 (v := ?_) rfl rfl (fun x hx => ?_) ?_;rotate_left
 ·go_simp;first|done|with_reducible rfl
 simp only [Act.put, nA, nB, nC];refine tU 12 37 (v := ?_) rfl rfl (fun x hx => ?_) ?_;rotate_left
 ·go_simp;first|done|with_reducible rfl
 simp only [Act.put, nA, nB, nC];refine tU 13 38 (v := ?_) rfl rfl (fun x hx => ?_) ?_;rotate_left
 ·have hca := HCA.o.keep (fun _ h => h) (Zb.later hx); have c0 := hca.c0; have c2 := hca.c2; have c4 := hca.c4; go_simp;first|done|with_reducible rfl
 simp only [Act.put, nA, nB, nC];refine Zag [_] (by kernel_rfl) rfl rfl ?_;simp only [List.getElem_toArray, List.getElem_cons_succ, List.getElem_cons_zero];go_wp2_with fail;refine (Z2 CB G L c.kind c.aB 0 c.line c.text _ HKW.o.im HP.o.ca.n0 HP.o.ca.n2 (by unfold Zi; omega) HN3.o HP.o.ca.tx).mono ?_;rintro e w1 ⟨z1, G1, rfl, zl1, zu1, hz, him, hG, ht⟩;have hks := HKW.o.step ht him hG (by simp);have HK1 := zh hks;clear hks him hG ht hz;go_wp2_with fail
 go_end0
 refine ⟨rfl, G1, E, ?_⟩;show KS w w1 CB G G1 (L ++ (Zk (cg n) c m lp L.length).1) lp lv LB E E (ex ++ (Zk (cg n) c m lp L.length).2);rw [Zcn HO.o];exact HK1.o.cast rfl (by simp)
theorem Zqf (n : Nat) (IH : ∀ n', n = n' + 1 → Zb7 n') (w : World) (CB : Nat) (G : Nat → Prop) (L : List Ze) (lp : Option Zr) (lv : Value) (LB : Nat) (E : Nat → Prop) (ex : List Nat) (F : Nat → Prop) (c : Zd) (cb co : Nat) (A : Option Addr) (k m : Nat) (HP : Hd (Zbm n w CB G L lp lv LB E ex F c cb co A k m)) (ho : c.kind < 11) (hle : L.length ≤ 60000) :
  Calls Tryz.prog 82 #[.pointer (some ⟨CB, 0, none⟩), .pointer (some ⟨cb, co, none⟩), .int .i64 m, lv] w (Zbk n w CB G L lp lv LB E ex c m) := by
 have HO := zh ho;obtain ⟨L0, iv, ov, hi⟩ := HP.o.ks.im;obtain ⟨rfl, e0⟩ := hi.not_over hle;rw [e0] at hi;obtain ⟨Ai, ci, rfl, -⟩ := id hi.row;have b0 := cz2 hi.blk;have fb0 := fz hi.blk;clear hi e0 L0;have HKS := zh HP.o.ks;have HN3 := zh HP.o.ca.n3;have hmb : m ≤ 1000000 := by have := HP.o.mb; omega
 have tm1 : IntKind.i64.wrap ((m : Int) + 1) = ((m + 1 : Nat) : Int) := by rw [IntWalk.i64_in _ (by omega)]; rfl
 have c0 := HP.o.ca.c0;have c3 := HP.o.ca.c3;have c5 := HP.o.ca.c5;have c2 := HP.o.ca.c2;have c4 := HP.o.ca.c4;have hk1 := HP.o.ok.1;have t28 : (c.kind == 28) = false := nH.2 (by omega);have t11 : (c.kind == 11) = false := nH.2 (by omega);have t12 : (c.kind == 12) = false := nH.2 (by omega);have t13 : (c.kind == 13) = false := nH.2 (by omega);have t14 : (c.kind == 14) = false := nH.2 (by omega);have t15 : (c.kind == 15) = false := nH.2 (by omega);have t16 : (c.kind == 16) = false := nH.2 (by omega);have t17 : (c.kind == 17) = false := nH.2 (by omega);have t18 : (c.kind == 18) = false := nH.2 (by omega);have t19 : (c.kind == 19) = false := nH.2 (by omega);clear hk1 ho c2 c4;go_enter Tryz.func82, Tryz.ntmps82;go_wp2_with fail;refine (Zmu n IH w CB G L lp lv LB E ex F c cb co A k m HP HO.o hle).mono ?_;rintro e w1 ⟨rfl, h⟩;go_wp2_with fail
 go_end0
 exact ⟨rfl, h⟩
theorem Zrm (n : Nat) (IH : ∀ n', n = n' + 1 → Zb7 n') (w : World) (CB : Nat) (G : Nat → Prop) (L : List Ze) (lp : Option Zr) (lv : Value) (LB : Nat) (E : Nat → Prop) (ex : List Nat) (F : Nat → Prop) (c : Zd) (cb co : Nat) (A : Option Addr) (k m : Nat) (HP : Hd (Zbm n w CB G L lp lv LB E ex F c cb co A k m)) (ho : c.kind = 11) (hle : L.length ≤ 60000) :
  Calls Tryz.prog 82 #[.pointer (some ⟨CB, 0, none⟩), .pointer (some ⟨cb, co, none⟩), .int .i64 m, lv] w (Zbk n w CB G L lp lv LB E ex c m) := by
 have HO := zh ho;obtain ⟨L0, iv, ov, hi⟩ := HP.o.ks.im;obtain ⟨rfl, e0⟩ := hi.not_over hle;rw [e0] at hi;obtain ⟨Ai, ci, rfl, -⟩ := id hi.row;have b0 := cz2 hi.blk;have fb0 := fz hi.blk;clear hi e0 L0;have HKS := zh HP.o.ks;have HN3 := zh HP.o.ca.n3;have hmb : m ≤ 1000000 := by have := HP.o.mb; omega
 have tm1 : IntKind.i64.wrap ((m : Int) + 1) = ((m + 1 : Nat) : Int) := by rw [IntWalk.i64_in _ (by omega)]; rfl
 have c0 := HP.o.ca.c0;have c3 := HP.o.ca.c3;have c5 := HP.o.ca.c5;rw [ho] at c0;clear ho;have c1 := HP.o.ca.c1;have HKD := zh HP.o.ca.kids;obtain ⟨A', k', ek, hkc, hkm, _⟩ := HP.o.ca.kids;have hks1 : (c.kids.length : Int) ≤ 9223372036854775807 := by unfold maxLen at hkm; cases ek; omega
 clear ek hkc hkm;go_enter Tryz.func82, Tryz.ntmps82;go_wp2_with fail
 go_loopw [10, 52] (fun _ iv wr => ∃ j : Nat, j ≤ c.kids.length ∧ iv = .int .i64 j ∧ ∃ G' E', KS w wr CB G G' (L ++ (Z4 (cg n) (c.kids.take j) m lp L.length).1) lp lv LB E E' (ex ++ (Z4 (cg n) (c.kids.take j) m lp L.length).2)) (fun _ iv _ => c.kids.length - (intOf iv).toNat)
 case atStart => exact ⟨0, Nat.zero_le _, rfl, G, E, by simpa [Z4] using HKS.o⟩
 case round =>
  obtain ⟨j, hj, rfl, G1, E1, hks⟩ := hrel;have HK1 := zh hks;clear hks
  by_cases hlt : j < c.kids.length
  ·obtain ⟨n', rfl⟩ := HP.o.ca.lev (i := j) hlt;obtain ⟨kb, ko, B0, q0, rfl, -⟩ := CAt.kid HP.o.ca.kids (i := j) hlt;have hlt' : (j : Int) < c.kids.length := by omega
   have hgG : ∀ b, G1 b → G b ∨ w.heap.size ≤ b := HK1.o.gG;have hE : lp.isSome = true → ∀ b, F b → b ≠ LB ∧ ¬ E1 b := fun hp b hb => ⟨((HP.o.fr b hb).2.2 hp).1, fun he => by
    obtain ⟨x, hx⟩ := Option.isSome_iff_exists.1 hp
    rcases (HK1.o.lk x hx).2.2.2.2.2.2 b he with h1 | h1
    ·exact ((HP.o.fr b hb).2.2 hp).2 h1
    ·have := HP.o.flt b hb; omega⟩
   have hin : ∀ i, Zm c.kind i lp.isSome = lp.isSome := fun i => by rw [HO.o]; simp [Zm]
   have hxl : (Z4 (cg (n' + 1)) (c.kids.take j) m lp L.length).2.length ≤ Zx (c.kids.take j) := Zgk _ _ (fun x hx b => by
    obtain ⟨i, hi, rfl⟩ := List.getElem_of_mem hx;rw [List.length_take] at hi;rw [List.getElem_take];have := HP.o.ok.2.2.2 i (by omega);rw [hin] at this;exact Z1 _ _ _ _ _ this)
   have hct := Zdx c.kids j hlt;obtain ⟨kb1, ko1, B1, q1, eA, HE1⟩ := HP.o.sub (i := j) (m1 := m) (lp1 := lp) hlt HK1.o.tn.size (HK1.o.keeps (fun b hb => HP.o.fr b hb)) HK1.o.here hgG hE (hin j) (by omega) HP.o.lm (by have := HP.o.exb; have := Zq c; rw [Za4 hlt]; simp; omega);cases eA;go_wp2_with fail;refine (IH _ rfl _ CB G1 _ lp lv LB E1 _ F (c.kid j) kb (ko + j * 6) B1 q1 m HE1).mono ?_;rintro e w2 ⟨rfl, G2, E2, hks⟩;have HK2 := zh (show KS w w2 CB G G2 (L ++ (Z4 (cg (n' + 1)) (c.kids.take (j + 1)) m lp L.length).1) lp lv LB E E2 (ex ++ (Z4 (cg (n' + 1)) (c.kids.take (j + 1)) m lp L.length).2) from (HK1.o.trans hks).cast (by rw [List.take_succ_eq_append_getElem hlt, Zc3, Za4 hlt]; simp) (by rw [List.take_succ_eq_append_getElem hlt, Zc3, Za4 hlt]; simp));clear hks hE hgG hxl;go_wp2_with fail
   go_roundw
   case rel => exact ⟨j + 1, by omega, by go_num, G2, E2, HK2.o⟩
   case measure => simp [intOf]; omega
  ·obtain rfl : j = c.kids.length := by omega
   have HK2 := zh (HK1.o.cast (show _ = L ++ (Z4 (cg n) c.kids m lp L.length).1 by rw [List.take_length]) (show _ = ex ++ (Z4 (cg n) c.kids m lp L.length).2 by rw [List.take_length]));have hca := HP.o.ca.keep (fun _ h => h) (HK1.o.keeps HP.o.fr);have d0 := hca.c0;have d1 := hca.c1;rw [HO.o] at d0;clear hca;have HN1 := zh HP.o.ca.n1;go_wp2_with fail;refine (Z2 CB G1 _ 11 c.op c.kids.length c.line ⟨#[]⟩ _ HK2.o.im (by unfold Zi; omega) HN1.o ⟨by omega, hks1⟩ HN3.o (Nat.zero_le _)).mono ?_;rintro e w3 ⟨z3, G3, rfl, zl3, zu3, hz, him, hG, ht⟩;have HK3 := zh (HK2.o.step ht him hG (by simp));clear him hG ht hz;go_wp2_with fail
   go_end0
   refine ⟨rfl, G3, E1, ?_⟩;show KS w w3 CB G G3 (L ++ (Zk (cg n) c m lp L.length).1) lp lv LB E E1 (ex ++ (Zk (cg n) c m lp L.length).2);rw [Zbc (by have := HO.o; omega)];exact HK3.o.cast (by rw [HO.o]; simp) rfl
theorem Zrn (n : Nat) (IH : ∀ n', n = n' + 1 → Zb7 n') (w : World) (CB : Nat) (G : Nat → Prop) (L : List Ze) (lp : Option Zr) (lv : Value) (LB : Nat) (E : Nat → Prop) (ex : List Nat) (F : Nat → Prop) (c : Zd) (cb co : Nat) (A : Option Addr) (k m : Nat) (HP : Hd (Zbm n w CB G L lp lv LB E ex F c cb co A k m)) (ho : c.kind = 12) (HOP : Hd (c.op = 0)) (hle : L.length ≤ 60000) :
  Calls Tryz.prog 82 #[.pointer (some ⟨CB, 0, none⟩), .pointer (some ⟨cb, co, none⟩), .int .i64 m, lv] w (Zbk n w CB G L lp lv LB E ex c m) := by
 have HO := zh ho;obtain ⟨L0, iv, ov, hi⟩ := HP.o.ks.im;obtain ⟨rfl, e0⟩ := hi.not_over hle;rw [e0] at hi;obtain ⟨Ai, ci, rfl, -⟩ := id hi.row;have b0 := cz2 hi.blk;have fb0 := fz hi.blk;clear hi e0 L0;have HKS := zh HP.o.ks;have HN3 := zh HP.o.ca.n3;have hmb : m ≤ 1000000 := by have := HP.o.mb; omega
 have tm1 : IntKind.i64.wrap ((m : Int) + 1) = ((m + 1 : Nat) : Int) := by rw [IntWalk.i64_in _ (by omega)]; rfl
 have c0 := HP.o.ca.c0;have c3 := HP.o.ca.c3;have c5 := HP.o.ca.c5;rw [ho] at c0;clear ho;have c1 := HP.o.ca.c1;have HKD := zh HP.o.ca.kids;obtain ⟨A', k', ek, hkc, hkm, _⟩ := HP.o.ca.kids;have hks1 : (c.kids.length : Int) ≤ 9223372036854775807 := by unfold maxLen at hkm; cases ek; omega
 clear ek hkc hkm;have HZ0 := zh (show c.op = 0 from HOP.o);go_enter Tryz.func82, Tryz.ntmps82;go_wp2_with fail
 go_loopw [10, 52] (fun _ iv wr => ∃ j : Nat, j ≤ c.kids.length ∧ iv = .int .i64 j ∧ ∃ G' E', KS w wr CB G G' (L ++ (Z4 (cg n) (c.kids.take j) m lp L.length).1) lp lv LB E E' (ex ++ (Z4 (cg n) (c.kids.take j) m lp L.length).2)) (fun _ iv _ => c.kids.length - (intOf iv).toNat)
 case atStart => exact ⟨0, Nat.zero_le _, rfl, G, E, by simpa [Z4] using HKS.o⟩
 case round =>
  obtain ⟨j, hj, rfl, G1, E1, hks⟩ := hrel;have HK1 := zh hks;clear hks
  by_cases hlt : j < c.kids.length
  ·obtain ⟨n', rfl⟩ := HP.o.ca.lev (i := j) hlt;obtain ⟨kb, ko, B0, q0, rfl, -⟩ := CAt.kid HP.o.ca.kids (i := j) hlt;have hlt' : (j : Int) < c.kids.length := by omega
   have hgG : ∀ b, G1 b → G b ∨ w.heap.size ≤ b := HK1.o.gG;have hE : lp.isSome = true → ∀ b, F b → b ≠ LB ∧ ¬ E1 b := fun hp b hb => ⟨((HP.o.fr b hb).2.2 hp).1, fun he => by
    obtain ⟨x, hx⟩ := Option.isSome_iff_exists.1 hp
    rcases (HK1.o.lk x hx).2.2.2.2.2.2 b he with h1 | h1
    ·exact ((HP.o.fr b hb).2.2 hp).2 h1
    ·have := HP.o.flt b hb; omega⟩
   have hin : ∀ i, Zm c.kind i lp.isSome = lp.isSome := fun i => by rw [HO.o]; simp [Zm]
   have hxl : (Z4 (cg (n' + 1)) (c.kids.take j) m lp L.length).2.length ≤ Zx (c.kids.take j) := Zgk _ _ (fun x hx b => by
    obtain ⟨i, hi, rfl⟩ := List.getElem_of_mem hx;rw [List.length_take] at hi;rw [List.getElem_take];have := HP.o.ok.2.2.2 i (by omega);rw [hin] at this;exact Z1 _ _ _ _ _ this)
   have hct := Zdx c.kids j hlt;obtain ⟨kb1, ko1, B1, q1, eA, HE1⟩ := HP.o.sub (i := j) (m1 := m) (lp1 := lp) hlt HK1.o.tn.size (HK1.o.keeps (fun b hb => HP.o.fr b hb)) HK1.o.here hgG hE (hin j) (by omega) HP.o.lm (by have := HP.o.exb; have := Zq c; rw [Za4 hlt]; simp; omega);cases eA;go_wp2_with fail;refine (IH _ rfl _ CB G1 _ lp lv LB E1 _ F (c.kid j) kb (ko + j * 6) B1 q1 m HE1).mono ?_;rintro e w2 ⟨rfl, G2, E2, hks⟩;have HK2 := zh (show KS w w2 CB G G2 (L ++ (Z4 (cg (n' + 1)) (c.kids.take (j + 1)) m lp L.length).1) lp lv LB E E2 (ex ++ (Z4 (cg (n' + 1)) (c.kids.take (j + 1)) m lp L.length).2) from (HK1.o.trans hks).cast (by rw [List.take_succ_eq_append_getElem hlt, Zc3, Za4 hlt]; simp) (by rw [List.take_succ_eq_append_getElem hlt, Zc3, Za4 hlt]; simp));clear hks hE hgG hxl;go_wp2_with fail
   go_roundw
   case rel => exact ⟨j + 1, by omega, by go_num, G2, E2, HK2.o⟩
   case measure => simp [intOf]; omega
  ·obtain rfl : j = c.kids.length := by omega
   have HK2 := zh (HK1.o.cast (show _ = L ++ (Z4 (cg n) c.kids m lp L.length).1 by rw [List.take_length]) (show _ = ex ++ (Z4 (cg n) c.kids m lp L.length).2 by rw [List.take_length]));have hca := HP.o.ca.keep (fun _ h => h) (HK1.o.keeps HP.o.fr);have d0 := hca.c0;have d1 := hca.c1;rw [HO.o] at d0;clear hca;have HN1 := zh HP.o.ca.n1;go_wp2_with fail;refine (Z2 CB G1 _ 12 0 c.kids.length c.line ⟨#[]⟩ _ HK2.o.im (by unfold Zi; omega) (by unfold Zi; omega) ⟨by omega, hks1⟩ HN3.o (Nat.zero_le _)).mono ?_;rintro e w3 ⟨z3, G3, rfl, zl3, zu3, hz, him, hG, ht⟩;have HK3 := zh (HK2.o.step ht him hG (by simp));clear him hG ht hz;go_wp2_with fail
   go_end0
   refine ⟨rfl, G3, E1, ?_⟩;show KS w w3 CB G G3 (L ++ (Zk (cg n) c m lp L.length).1) lp lv LB E E1 (ex ++ (Zk (cg n) c m lp L.length).2);rw [Zbc (by have := HO.o; omega)];exact HK3.o.cast (by rw [HO.o]; rw [HZ0.o]; simp) rfl
theorem Zro (n : Nat) (IH : ∀ n', n = n' + 1 → Zb7 n') (w : World) (CB : Nat) (G : Nat → Prop) (L : List Ze) (lp : Option Zr) (lv : Value) (LB : Nat) (E : Nat → Prop) (ex : List Nat) (F : Nat → Prop) (c : Zd) (cb co : Nat) (A : Option Addr) (k m : Nat) (HP : Hd (Zbm n w CB G L lp lv LB E ex F c cb co A k m)) (ho : c.kind = 13) (hle : L.length ≤ 60000) :
  Calls Tryz.prog 82 #[.pointer (some ⟨CB, 0, none⟩), .pointer (some ⟨cb, co, none⟩), .int .i64 m, lv] w (Zbk n w CB G L lp lv LB E ex c m) := by
 have HO := zh ho;obtain ⟨L0, iv, ov, hi⟩ := HP.o.ks.im;obtain ⟨rfl, e0⟩ := hi.not_over hle;rw [e0] at hi;obtain ⟨Ai, ci, rfl, -⟩ := id hi.row;have b0 := cz2 hi.blk;have fb0 := fz hi.blk;clear hi e0 L0;have HKS := zh HP.o.ks;have HN3 := zh HP.o.ca.n3;have hmb : m ≤ 1000000 := by have := HP.o.mb; omega
 have tm1 : IntKind.i64.wrap ((m : Int) + 1) = ((m + 1 : Nat) : Int) := by rw [IntWalk.i64_in _ (by omega)]; rfl
 have hkn : 2 ≤ c.kids.length := by have := HP.o.ok.2.1; rw [ho] at this; exact this
 obtain ⟨n', rfl⟩ := HP.o.ca.lev (i := 0) (by omega);obtain ⟨n, rfl⟩ : ∃ z, z = n' := ⟨_, rfl⟩;obtain ⟨kb, ko, B0, q0, rfl, -⟩ := CAt.kid HP.o.ca.kids (i := 0) (by omega);have hkn2 : (2 : Int) ≤ (c.kids.length : Int) := by omega
 have hcnt := Ze3 (c := c) hkn;have c0 := HP.o.ca.c0;have c3 := HP.o.ca.c3;have c5 := HP.o.ca.c5;rw [ho] at c0;clear ho;go_enter Tryz.func82, Tryz.ntmps82;go_wp2_with fail;refine (Z2 CB G L 17 0 0 c.line ⟨#[]⟩ _ HKS.o.im (by unfold Zi; omega) (by unfold Zi; omega) (by unfold Zi; omega) HN3.o (Nat.zero_le _)).mono ?_;rintro e w1 ⟨z1, G1, rfl, zl1, zu1, hz, him, hG, ht⟩;have HZ1 := zh (show L.length < 60000 → z1 = ((L.length : Nat) : Int) from fun h => by have := hz (by omega); omega);have hks := HKS.o.step ht him hG (by simp);clear him hG ht hz;obtain ⟨L1, hL⟩ : ∃ z, z = L ++ [(⟨17, 0, 0, c.line, ⟨#[]⟩⟩ : Ze)] := ⟨_, rfl⟩;rw [← hL] at hks;have HL1 := zh (show L1 = L ++ ([Zg 17 0 c.line]) by rw [hL]; try simp [Zg]);have hl1 : L1.length = L.length + 1 := by rw [hL]; simp
 have HK1 := zh hks;clear hks hL;go_wp2_with fail;have hgG : ∀ b, G1 b → G b ∨ w.heap.size ≤ b := HK1.o.gG;have hE : lp.isSome = true → ∀ b, F b → b ≠ LB ∧ ¬ E b := fun hp b hb => ⟨((HP.o.fr b hb).2.2 hp).1, fun he => by
  obtain ⟨x, hx⟩ := Option.isSome_iff_exists.1 hp
  rcases (HK1.o.lk x hx).2.2.2.2.2.2 b he with h1 | h1
  ·exact ((HP.o.fr b hb).2.2 hp).2 h1
  ·have := HP.o.flt b hb; omega⟩
 obtain ⟨kb2, ko2, B2, q2, eA, HE2⟩ := HP.o.sub (i := 0) (m1 := m) (lp1 := lp) (by omega) HK1.o.tn.size (HK1.o.keeps (fun b hb => HP.o.fr b hb)) HK1.o.here hgG hE (by rw [HO.o]; simp [Zm]) (by omega) (fun x hx => Nat.le_trans (HP.o.lm x hx) (by omega)) (by have := HP.o.exb; have := Zq c; omega);cases eA;refine (IH _ rfl w1 CB G1 L1 lp lv LB E ex F (c.kid 0) kb (ko + 0 * 6) B2 q2 (m) HE2).mono ?_;rintro e w2 ⟨rfl, G2, E2, hks⟩;rw [hl1] at hks;obtain ⟨r2, hr⟩ : ∃ z, z = cg (n + 1) (c.kid 0) (m) (lp) (L.length + 1) := ⟨_, rfl⟩;rw [← hr] at hks;have HR2 := zh hr;have hq2 : r2.2.length ≤ Z0 (c.kid 0) := by rw [hr]; exact Z1 _ _ _ _ _ HE2.o.ok
 replace hks := HK1.o.trans hks;clear hr hgG hE;obtain ⟨x2, hx⟩ : ∃ z, z = ex ++ r2.2 := ⟨_, rfl⟩;rw [← hx] at hks;have HX2 := zh (show x2 = ex ++ (r2.2) by rw [hx]; try simp);have hxl2 : x2.length = ex.length + r2.2.length := by rw [hx]; simp
 clear hx;obtain ⟨L2, hL⟩ : ∃ z, z = L1 ++ r2.1 := ⟨_, rfl⟩;rw [← hL] at hks;have HL2 := zh (show L2 = L ++ ([Zg 17 0 c.line] ++ (r2.1)) by rw [hL, HL1.o]; try simp [Zg]);have hl2 : L2.length = L.length + 1 + r2.1.length := by rw [hL]; simp [hl1]
 have HK2 := zh hks;clear hks hL;go_wp2_with fail;refine (Z2 CB G2 L2 15 0 0 c.line ⟨#[]⟩ _ HK2.o.im (by unfold Zi; omega) (by unfold Zi; omega) (by unfold Zi; omega) HN3.o (Nat.zero_le _)).mono ?_;rintro e w3 ⟨z3, G3, rfl, zl3, zu3, hz, him, hG, ht⟩;have HZ3 := zh (show L.length + 1 + r2.1.length < 60000 → z3 = ((L.length + 1 + r2.1.length : Nat) : Int) from fun h => by have := hz (by have := hl2; omega); have := hl2; omega);have hks := HK2.o.step ht him hG (by simp);clear him hG ht hz;obtain ⟨L3, hL⟩ : ∃ z, z = L2 ++ [(⟨15, 0, 0, c.line, ⟨#[]⟩⟩ : Ze)] := ⟨_, rfl⟩;rw [← hL] at hks;have HL3 := zh (show L3 = L ++ ([Zg 17 0 c.line] ++ (r2.1 ++ ([Zg 15 0 c.line]))) by rw [hL, HL2.o]; try simp [Zg]);have hl3 : L3.length = L.length + 1 + r2.1.length + 1 := by rw [hL]; simp [hl2]
 have HK3 := zh hks;clear hks hL;go_wp2_with fail;refine (Zbp CB G3 L3 (L.length) z1 _ HK3.o.im (fun h => ⟨by have := HZ1.o (by omega); omega, by omega⟩)).mono ?_;rintro e w4 ⟨rfl, him, ht⟩;have hks := HK3.o.step ht him (fun _ h => .inl h) (by rw [Zp]; exact Nat.le_refl _);clear him ht;have hpt := Zav (LL := L3) (A := L) (B := r2.1 ++ ([Zg 15 0 c.line])) (op := 17) (a0 := 0) (l := c.line) (i := L.length) (k := L.length + 1 + r2.1.length + 1) (by rw [HL3.o]; simp) (by simp; try omega) hl3;rw [hpt] at hks;obtain ⟨L4, hL⟩ : ∃ z, z = L ++ Zg 17 ((L.length + 1 + r2.1.length + 1 : Nat) : Int) c.line :: (r2.1 ++ ([Zg 15 0 c.line])) := ⟨_, rfl⟩;rw [← hL] at hks;have HL4 := zh (show L4 = L ++ ([Zg 17 ((L.length + 1 + r2.1.length + 1 : Nat) : Int) c.line] ++ (r2.1 ++ ([Zg 15 0 c.line]))) by rw [hL]; simp);have hl4 : L4.length = L.length + 1 + r2.1.length + 1 := by rw [hL, ← hpt, Zp, hl3]
 have HK4 := zh hks;clear hks hL hpt;go_wp2_with fail;have hgG : ∀ b, G3 b → G b ∨ w.heap.size ≤ b := HK4.o.gG;have hE : lp.isSome = true → ∀ b, F b → b ≠ LB ∧ ¬ E2 b := fun hp b hb => ⟨((HP.o.fr b hb).2.2 hp).1, fun he => by
  obtain ⟨x, hx⟩ := Option.isSome_iff_exists.1 hp
  rcases (HK4.o.lk x hx).2.2.2.2.2.2 b he with h1 | h1
  ·exact ((HP.o.fr b hb).2.2 hp).2 h1
  ·have := HP.o.flt b hb; omega⟩
 obtain ⟨kb5, ko5, B5, q5, eA, HE5⟩ := HP.o.sub (i := 1) (m1 := m) (lp1 := lp) (by omega) HK4.o.tn.size (HK4.o.keeps (fun b hb => HP.o.fr b hb)) HK4.o.here hgG hE (by rw [HO.o]; simp [Zm]) (by omega) (fun x hx => Nat.le_trans (HP.o.lm x hx) (by omega)) (by have := HP.o.exb; have := Zq c; have := hxl2; omega);cases eA;refine (IH _ rfl w4 CB G3 L4 lp lv LB E2 x2 F (c.kid 1) kb (ko + 1 * 6) B5 q5 (m) HE5).mono ?_;rintro e w5 ⟨rfl, G5, E5, hks⟩;rw [hl4] at hks;obtain ⟨r5, hr⟩ : ∃ z, z = cg (n + 1) (c.kid 1) (m) (lp) (L.length + 1 + r2.1.length + 1) := ⟨_, rfl⟩;rw [← hr] at hks;have HR5 := zh hr;have hq5 : r5.2.length ≤ Z0 (c.kid 1) := by rw [hr]; exact Z1 _ _ _ _ _ HE5.o.ok
 replace hks := HK4.o.trans hks;clear hr hgG hE;obtain ⟨x5, hx⟩ : ∃ z, z = x2 ++ r5.2 := ⟨_, rfl⟩;rw [← hx] at hks;have HX5 := zh (show x5 = ex ++ (r2.2 ++ (r5.2)) by rw [hx, HX2.o]; try simp);have hxl5 : x5.length = x2.length + r5.2.length := by rw [hx]; simp
 clear hx;obtain ⟨L5, hL⟩ : ∃ z, z = L4 ++ r5.1 := ⟨_, rfl⟩;rw [← hL] at hks;have HL5 := zh (show L5 = L ++ ([Zg 17 ((L.length + 1 + r2.1.length + 1 : Nat) : Int) c.line] ++ (r2.1 ++ ([Zg 15 0 c.line] ++ (r5.1)))) by rw [hL, HL4.o]; try simp [Zg]);have hl5 : L5.length = L.length + 1 + r2.1.length + 1 + r5.1.length := by rw [hL]; simp [hl4]
 have HK5 := zh hks;clear hks hL;go_wp2_with fail;refine (Zbp CB G5 L5 (L.length + 1 + r2.1.length) z3 _ HK5.o.im (fun h => ⟨by have := HZ3.o (by omega); omega, by omega⟩)).mono ?_;rintro e w6 ⟨rfl, him, ht⟩;have hks := HK5.o.step ht him (fun _ h => .inl h) (by rw [Zp]; exact Nat.le_refl _);clear him ht;have hpt := Zav (LL := L5) (A := L ++ ([Zg 17 ((L.length + 1 + r2.1.length + 1 : Nat) : Int) c.line] ++ (r2.1))) (B := r5.1) (op := 15) (a0 := 0) (l := c.line) (i := L.length + 1 + r2.1.length) (k := L.length + 1 + r2.1.length + 1 + r5.1.length) (by rw [HL5.o]; simp) (by simp; try omega) hl5;rw [hpt] at hks;obtain ⟨L6, hL⟩ : ∃ z, z = L ++ ([Zg 17 ((L.length + 1 + r2.1.length + 1 : Nat) : Int) c.line] ++ (r2.1)) ++ Zg 15 ((L.length + 1 + r2.1.length + 1 + r5.1.length : Nat) : Int) c.line :: (r5.1) := ⟨_, rfl⟩;rw [← hL] at hks;have HL6 := zh (show L6 = L ++ ([Zg 17 ((L.length + 1 + r2.1.length + 1 : Nat) : Int) c.line] ++ (r2.1 ++ ([Zg 15 ((L.length + 1 + r2.1.length + 1 + r5.1.length : Nat) : Int) c.line] ++ (r5.1)))) by rw [hL]; simp);have hl6 : L6.length = L.length + 1 + r2.1.length + 1 + r5.1.length := by rw [hL, ← hpt, Zp, hl5]
 have HK6 := zh hks;clear hks hL hpt;go_wp2_with fail
 go_end0
 refine ⟨rfl, G5, E5, ?_⟩;show KS w w6 CB G G5 (L ++ (Zk (cg (n + 1)) c m lp L.length).1) lp lv LB E E5 (ex ++ (Zk (cg (n + 1)) c m lp L.length).2);rw [Zfk HO.o];simp only [← HR2.o, ← HR5.o];refine HK6.o.cast ?_ ?_
 ·rw [HL6.o]; try simp
 ·rw [HX5.o]; try simp
theorem Zrp (n : Nat) (IH : ∀ n', n = n' + 1 → Zb7 n') (w : World) (CB : Nat) (G : Nat → Prop) (L : List Ze) (lp : Option Zr) (lv : Value) (LB : Nat) (E : Nat → Prop) (ex : List Nat) (F : Nat → Prop) (c : Zd) (cb co : Nat) (A : Option Addr) (k m : Nat) (HP : Hd (Zbm n w CB G L lp lv LB E ex F c cb co A k m)) (ho : c.kind = 14) (hle : L.length ≤ 60000) :
  Calls Tryz.prog 82 #[.pointer (some ⟨CB, 0, none⟩), .pointer (some ⟨cb, co, none⟩), .int .i64 m, lv] w (Zbk n w CB G L lp lv LB E ex c m) := by
 have HO := zh ho;obtain ⟨L0, iv, ov, hi⟩ := HP.o.ks.im;obtain ⟨rfl, e0⟩ := hi.not_over hle;rw [e0] at hi;obtain ⟨Ai, ci, rfl, -⟩ := id hi.row;have b0 := cz2 hi.blk;have fb0 := fz hi.blk;clear hi e0 L0;have HKS := zh HP.o.ks;have HN3 := zh HP.o.ca.n3;have hmb : m ≤ 1000000 := by have := HP.o.mb; omega
 have tm1 : IntKind.i64.wrap ((m : Int) + 1) = ((m + 1 : Nat) : Int) := by rw [IntWalk.i64_in _ (by omega)]; rfl
 have hkn : 1 ≤ c.kids.length := by have := HP.o.ok.2.1; rw [ho] at this; exact this
 obtain ⟨n', rfl⟩ := HP.o.ca.lev (i := 0) (by omega);obtain ⟨n, rfl⟩ : ∃ z, z = n' := ⟨_, rfl⟩;obtain ⟨kb, ko, B0, q0, rfl, -⟩ := CAt.kid HP.o.ca.kids (i := 0) (by omega);have hkn2 : (1 : Int) ≤ (c.kids.length : Int) := by omega
 have hcnt := Zfw (c := c) hkn;have c0 := HP.o.ca.c0;have c3 := HP.o.ca.c3;have c5 := HP.o.ca.c5;rw [ho] at c0;clear ho;go_enter Tryz.func82, Tryz.ntmps82;go_wp2_with fail;refine (Z2 CB G L 18 0 0 c.line ⟨#[]⟩ _ HKS.o.im (by unfold Zi; omega) (by unfold Zi; omega) (by unfold Zi; omega) HN3.o (Nat.zero_le _)).mono ?_;rintro e w1 ⟨z1, G1, rfl, zl1, zu1, hz, him, hG, ht⟩;have HZ1 := zh (show L.length < 60000 → z1 = ((L.length : Nat) : Int) from fun h => by have := hz (by omega); omega);have hks := HKS.o.step ht him hG (by simp);clear him hG ht hz;obtain ⟨L1, hL⟩ : ∃ z, z = L ++ [(⟨18, 0, 0, c.line, ⟨#[]⟩⟩ : Ze)] := ⟨_, rfl⟩;rw [← hL] at hks;have HL1 := zh (show L1 = L ++ ([Zg 18 0 c.line]) by rw [hL]; try simp [Zg]);have hl1 : L1.length = L.length + 1 := by rw [hL]; simp
 have HK1 := zh hks;clear hks hL;go_wp2_with fail;refine (Z2 CB G1 L1 13 (-1) 0 c.line ⟨#[]⟩ _ HK1.o.im (by unfold Zi; omega) (by unfold Zi; omega) (by unfold Zi; omega) HN3.o (Nat.zero_le _)).mono ?_;rintro e w2 ⟨z2, G2, rfl, zl2, zu2, hz, him, hG, ht⟩;have HZ2 := zh (show L.length + 1 < 60000 → z2 = ((L.length + 1 : Nat) : Int) from fun h => by have := hz (by have := hl1; omega); have := hl1; omega);have hks := HK1.o.step ht him hG (by simp);clear him hG ht hz;obtain ⟨L2, hL⟩ : ∃ z, z = L1 ++ [(⟨13, (-1), 0, c.line, ⟨#[]⟩⟩ : Ze)] := ⟨_, rfl⟩;rw [← hL] at hks;have HL2 := zh (show L2 = L ++ ([Zg 18 0 c.line] ++ ([Zg 13 (-1) c.line])) by rw [hL, HL1.o]; try simp [Zg]);have hl2 : L2.length = L.length + 1 + 1 := by rw [hL]; simp [hl1]
 have HK2 := zh hks;clear hks hL;go_wp2_with fail;have hgG : ∀ b, G2 b → G b ∨ w.heap.size ≤ b := HK2.o.gG;have hE : lp.isSome = true → ∀ b, F b → b ≠ LB ∧ ¬ E b := fun hp b hb => ⟨((HP.o.fr b hb).2.2 hp).1, fun he => by
  obtain ⟨x, hx⟩ := Option.isSome_iff_exists.1 hp
  rcases (HK2.o.lk x hx).2.2.2.2.2.2 b he with h1 | h1
  ·exact ((HP.o.fr b hb).2.2 hp).2 h1
  ·have := HP.o.flt b hb; omega⟩
 obtain ⟨kb3, ko3, B3, q3, eA, HE3⟩ := HP.o.sub (i := 0) (m1 := m + 1) (lp1 := lp) (by omega) HK2.o.tn.size (HK2.o.keeps (fun b hb => HP.o.fr b hb)) HK2.o.here hgG hE (by rw [HO.o]; simp [Zm]) (by omega) (fun x hx => Nat.le_trans (HP.o.lm x hx) (by omega)) (by have := HP.o.exb; have := Zq c; omega);cases eA;refine (IH _ rfl w2 CB G2 L2 lp lv LB E ex F (c.kid 0) kb (ko + 0 * 6) B3 q3 (m + 1) HE3).mono ?_;rintro e w3 ⟨rfl, G3, E3, hks⟩;rw [hl2] at hks;obtain ⟨r3, hr⟩ : ∃ z, z = cg (n + 1) (c.kid 0) (m + 1) (lp) (L.length + 1 + 1) := ⟨_, rfl⟩;rw [← hr] at hks;have HR3 := zh hr;have hq3 : r3.2.length ≤ Z0 (c.kid 0) := by rw [hr]; exact Z1 _ _ _ _ _ HE3.o.ok
 replace hks := HK2.o.trans hks;clear hr hgG hE;obtain ⟨x3, hx⟩ : ∃ z, z = ex ++ r3.2 := ⟨_, rfl⟩;rw [← hx] at hks;have HX3 := zh (show x3 = ex ++ (r3.2) by rw [hx]; try simp);have hxl3 : x3.length = ex.length + r3.2.length := by rw [hx]; simp
 clear hx;obtain ⟨L3, hL⟩ : ∃ z, z = L2 ++ r3.1 := ⟨_, rfl⟩;rw [← hL] at hks;have HL3 := zh (show L3 = L ++ ([Zg 18 0 c.line] ++ ([Zg 13 (-1) c.line] ++ (r3.1))) by rw [hL, HL2.o]; try simp [Zg]);have hl3 : L3.length = L.length + 1 + 1 + r3.1.length := by rw [hL]; simp [hl2]
 have HK3 := zh hks;clear hks hL;go_wp2_with fail;refine (Z2 CB G3 L3 19 z1 0 c.line ⟨#[]⟩ _ HK3.o.im (by unfold Zi; omega) (by unfold Zi; omega) (by unfold Zi; omega) HN3.o (Nat.zero_le _)).mono ?_;rintro e w4 ⟨z4, G4, rfl, zl4, zu4, hz, him, hG, ht⟩;have HZ4 := zh (show L.length + 1 + 1 + r3.1.length < 60000 → z4 = ((L.length + 1 + 1 + r3.1.length : Nat) : Int) from fun h => by have := hz (by have := hl3; omega); have := hl3; omega);have hks := HK3.o.step ht him hG (by simp);clear him hG ht hz;replace hks := hks.relabel (y := ((L.length : Nat) : Int)) (fun h => by have := HZ1.o (by omega); omega);obtain ⟨L4, hL⟩ : ∃ z, z = L3 ++ [(⟨19, ((L.length : Nat) : Int), 0, c.line, ⟨#[]⟩⟩ : Ze)] := ⟨_, rfl⟩;rw [← hL] at hks;have HL4 := zh (show L4 = L ++ ([Zg 18 0 c.line] ++ ([Zg 13 (-1) c.line] ++ (r3.1 ++ ([Zg 19 ((L.length : Nat) : Int) c.line])))) by rw [hL, HL3.o]; try simp [Zg]);have hl4 : L4.length = L.length + 1 + 1 + r3.1.length + 1 := by rw [hL]; simp [hl3]
 have HK4 := zh hks;clear hks hL;go_wp2_with fail
 go_end0
 refine ⟨rfl, G4, E3, ?_⟩;show KS w w4 CB G G4 (L ++ (Zk (cg (n + 1)) c m lp L.length).1) lp lv LB E E3 (ex ++ (Zk (cg (n + 1)) c m lp L.length).2);rw [Zfl HO.o];simp only [← HR3.o];refine HK4.o.cast ?_ ?_
 ·rw [HL4.o]; try simp
 ·rw [HX3.o]; try simp
theorem Zrq (n : Nat) (IH : ∀ n', n = n' + 1 → Zb7 n') (w : World) (CB : Nat) (G : Nat → Prop) (L : List Ze) (lp : Option Zr) (lv : Value) (LB : Nat) (E : Nat → Prop) (ex : List Nat) (F : Nat → Prop) (c : Zd) (cb co : Nat) (A : Option Addr) (k m : Nat) (HP : Hd (Zbm n w CB G L lp lv LB E ex F c cb co A k m)) (ho : c.kind = 15) (hle : L.length ≤ 60000) :
  Calls Tryz.prog 82 #[.pointer (some ⟨CB, 0, none⟩), .pointer (some ⟨cb, co, none⟩), .int .i64 m, lv] w (Zbk n w CB G L lp lv LB E ex c m) := by
 have HO := zh ho;obtain ⟨L0, iv, ov, hi⟩ := HP.o.ks.im;obtain ⟨rfl, e0⟩ := hi.not_over hle;rw [e0] at hi;obtain ⟨Ai, ci, rfl, -⟩ := id hi.row;have b0 := cz2 hi.blk;have fb0 := fz hi.blk;clear hi e0 L0;have HKS := zh HP.o.ks;have HN3 := zh HP.o.ca.n3;have hmb : m ≤ 1000000 := by have := HP.o.mb; omega
 have tm1 : IntKind.i64.wrap ((m : Int) + 1) = ((m + 1 : Nat) : Int) := by rw [IntWalk.i64_in _ (by omega)]; rfl
 have hkn : 2 ≤ c.kids.length := by have := HP.o.ok.2.1; rw [ho] at this; exact this
 obtain ⟨n', rfl⟩ := HP.o.ca.lev (i := 0) (by omega);obtain ⟨n, rfl⟩ : ∃ z, z = n' := ⟨_, rfl⟩;obtain ⟨kb, ko, B0, q0, rfl, -⟩ := CAt.kid HP.o.ca.kids (i := 0) (by omega);have hkn2 : (2 : Int) ≤ (c.kids.length : Int) := by omega
 have hcnt := Ze3 (c := c) hkn;have c0 := HP.o.ca.c0;have c3 := HP.o.ca.c3;have c5 := HP.o.ca.c5;rw [ho] at c0;clear ho;go_enter Tryz.func82, Tryz.ntmps82;go_wp2_with fail;have hgG : ∀ b, G b → G b ∨ w.heap.size ≤ b := HKS.o.gG;have hE : lp.isSome = true → ∀ b, F b → b ≠ LB ∧ ¬ E b := fun hp b hb => ⟨((HP.o.fr b hb).2.2 hp).1, fun he => by
  obtain ⟨x, hx⟩ := Option.isSome_iff_exists.1 hp
  rcases (HKS.o.lk x hx).2.2.2.2.2.2 b he with h1 | h1
  ·exact ((HP.o.fr b hb).2.2 hp).2 h1
  ·have := HP.o.flt b hb; omega⟩
 obtain ⟨kb1, ko1, B1, q1, eA, HE1⟩ := HP.o.sub (i := 1) (m1 := m) (lp1 := lp) (by omega) HKS.o.tn.size (HKS.o.keeps (fun b hb => HP.o.fr b hb)) HKS.o.here hgG hE (by rw [HO.o]; simp [Zm]) (by omega) (fun x hx => Nat.le_trans (HP.o.lm x hx) (by omega)) (by have := HP.o.exb; have := Zq c; omega);cases eA;refine (IH _ rfl w CB G L lp lv LB E ex F (c.kid 1) kb (ko + 1 * 6) B1 q1 (m) HE1).mono ?_;rintro e w1 ⟨rfl, G1, E1, hks⟩;obtain ⟨r1, hr⟩ : ∃ z, z = cg (n + 1) (c.kid 1) (m) (lp) (L.length) := ⟨_, rfl⟩;rw [← hr] at hks;have HR1 := zh hr;have hq1 : r1.2.length ≤ Z0 (c.kid 1) := by rw [hr]; exact Z1 _ _ _ _ _ HE1.o.ok
 replace hks := HKS.o.trans hks;clear hr hgG hE;obtain ⟨x1, hx⟩ : ∃ z, z = ex ++ r1.2 := ⟨_, rfl⟩;rw [← hx] at hks;have HX1 := zh (show x1 = ex ++ (r1.2) by rw [hx]; try simp);have hxl1 : x1.length = ex.length + r1.2.length := by rw [hx]; simp
 clear hx;obtain ⟨L1, hL⟩ : ∃ z, z = L ++ r1.1 := ⟨_, rfl⟩;rw [← hL] at hks;have HL1 := zh (show L1 = L ++ (r1.1) by rw [hL]; try simp [Zg]);have hl1 : L1.length = L.length + r1.1.length := by rw [hL]; simp
 have HK1 := zh hks;clear hks hL;go_wp2_with fail;refine (Z2 CB G1 L1 20 0 0 c.line ⟨#[]⟩ _ HK1.o.im (by unfold Zi; omega) (by unfold Zi; omega) (by unfold Zi; omega) HN3.o (Nat.zero_le _)).mono ?_;rintro e w2 ⟨z2, G2, rfl, zl2, zu2, hz, him, hG, ht⟩;have HZ2 := zh (show L.length + r1.1.length < 60000 → z2 = ((L.length + r1.1.length : Nat) : Int) from fun h => by have := hz (by have := hl1; omega); have := hl1; omega);have hks := HK1.o.step ht him hG (by simp);clear him hG ht hz;obtain ⟨L2, hL⟩ : ∃ z, z = L1 ++ [(⟨20, 0, 0, c.line, ⟨#[]⟩⟩ : Ze)] := ⟨_, rfl⟩;rw [← hL] at hks;have HL2 := zh (show L2 = L ++ (r1.1 ++ ([Zg 20 0 c.line])) by rw [hL, HL1.o]; try simp [Zg]);have hl2 : L2.length = L.length + r1.1.length + 1 := by rw [hL]; simp [hl1]
 have HK2 := zh hks;clear hks hL;go_wp2_with fail;have hgG : ∀ b, G2 b → G b ∨ w.heap.size ≤ b := HK2.o.gG;have hE : lp.isSome = true → ∀ b, F b → b ≠ LB ∧ ¬ E1 b := fun hp b hb => ⟨((HP.o.fr b hb).2.2 hp).1, fun he => by
  obtain ⟨x, hx⟩ := Option.isSome_iff_exists.1 hp
  rcases (HK2.o.lk x hx).2.2.2.2.2.2 b he with h1 | h1
  ·exact ((HP.o.fr b hb).2.2 hp).2 h1
  ·have := HP.o.flt b hb; omega⟩
 obtain ⟨kb3, ko3, B3, q3, eA, HE3⟩ := HP.o.sub (i := 0) (m1 := m + 1) (lp1 := lp) (by omega) HK2.o.tn.size (HK2.o.keeps (fun b hb => HP.o.fr b hb)) HK2.o.here hgG hE (by rw [HO.o]; simp [Zm]) (by omega) (fun x hx => Nat.le_trans (HP.o.lm x hx) (by omega)) (by have := HP.o.exb; have := Zq c; have := hxl1; omega);cases eA;refine (IH _ rfl w2 CB G2 L2 lp lv LB E1 x1 F (c.kid 0) kb (ko + 0 * 6) B3 q3 (m + 1) HE3).mono ?_;rintro e w3 ⟨rfl, G3, E3, hks⟩;rw [hl2] at hks;obtain ⟨r3, hr⟩ : ∃ z, z = cg (n + 1) (c.kid 0) (m + 1) (lp) (L.length + r1.1.length + 1) := ⟨_, rfl⟩;rw [← hr] at hks;have HR3 := zh hr;have hq3 : r3.2.length ≤ Z0 (c.kid 0) := by rw [hr]; exact Z1 _ _ _ _ _ HE3.o.ok
 replace hks := HK2.o.trans hks;clear hr hgG hE;obtain ⟨x3, hx⟩ : ∃ z, z = x1 ++ r3.2 := ⟨_, rfl⟩;rw [← hx] at hks;have HX3 := zh (show x3 = ex ++ (r1.2 ++ (r3.2)) by rw [hx, HX1.o]; try simp);have hxl3 : x3.length = x1.length + r3.2.length := by rw [hx]; simp
 clear hx;obtain ⟨L3, hL⟩ : ∃ z, z = L2 ++ r3.1 := ⟨_, rfl⟩;rw [← hL] at hks;have HL3 := zh (show L3 = L ++ (r1.1 ++ ([Zg 20 0 c.line] ++ (r3.1))) by rw [hL, HL2.o]; try simp [Zg]);have hl3 : L3.length = L.length + r1.1.length + 1 + r3.1.length := by rw [hL]; simp [hl2]
 have HK3 := zh hks;clear hks hL;go_wp2_with fail;refine (Z2 CB G3 L3 21 0 0 c.line ⟨#[]⟩ _ HK3.o.im (by unfold Zi; omega) (by unfold Zi; omega) (by unfold Zi; omega) HN3.o (Nat.zero_le _)).mono ?_;rintro e w4 ⟨z4, G4, rfl, zl4, zu4, hz, him, hG, ht⟩;have HZ4 := zh (show L.length + r1.1.length + 1 + r3.1.length < 60000 → z4 = ((L.length + r1.1.length + 1 + r3.1.length : Nat) : Int) from fun h => by have := hz (by have := hl3; omega); have := hl3; omega);have hks := HK3.o.step ht him hG (by simp);clear him hG ht hz;obtain ⟨L4, hL⟩ : ∃ z, z = L3 ++ [(⟨21, 0, 0, c.line, ⟨#[]⟩⟩ : Ze)] := ⟨_, rfl⟩;rw [← hL] at hks;have HL4 := zh (show L4 = L ++ (r1.1 ++ ([Zg 20 0 c.line] ++ (r3.1 ++ ([Zg 21 0 c.line])))) by rw [hL, HL3.o]; try simp [Zg]);have hl4 : L4.length = L.length + r1.1.length + 1 + r3.1.length + 1 := by rw [hL]; simp [hl3]
 have HK4 := zh hks;clear hks hL;go_wp2_with fail
 go_end0
 refine ⟨rfl, G4, E3, ?_⟩;show KS w w4 CB G G4 (L ++ (Zk (cg (n + 1)) c m lp L.length).1) lp lv LB E E3 (ex ++ (Zk (cg (n + 1)) c m lp L.length).2);rw [Zfm HO.o];simp only [← HR1.o, ← HR3.o];refine HK4.o.cast ?_ ?_
 ·rw [HL4.o]; try simp
 ·rw [HX3.o]; try simp
def Zut (n : Nat) (w : World) (CB : Nat) (G : Nat → Prop) (L : List Ze) (lp : Option Zr) (lv : Value) (LB : Nat) (E : Nat → Prop) (ex : List Nat) (c : Zd) (m : Nat) (e : Ending) (w' : World) : Prop :=
 ∃ (z : Int) (G' E' : Nat → Prop), e = .returned (.int .i64 z) ∧ 0 ≤ z ∧ z ≤ 60000 ∧ (L.length < 60000 → z = L.length) ∧ KS w w' CB G G' (L ++ (Zg 13 0 c.line :: ((cg (n + 1) c (m + 1) lp (L.length + 1)).1 ++ [Zg 14 0 c.line]))) lp lv LB E E' (ex ++ (cg (n + 1) c (m + 1) lp (L.length + 1)).2)
theorem Zcs (n : Nat) (IH : Zb7 n) (w : World) (CB : Nat) (G : Nat → Prop) (L : List Ze) (lp : Option Zr) (lv : Value) (LB : Nat) (E : Nat → Prop) (ex : List Nat) (F : Nat → Prop) (c : Zd) (cb co : Nat) (A : Option Addr) (k m : Nat) (HP : Hd (Zbm n w CB G L lp lv LB E ex F c cb co A k (m + 1))) :
  Calls Tryz.prog 36 #[.pointer (some ⟨CB, 0, none⟩), .pointer (some ⟨cb, co, none⟩), .int .i64 m, lv] w (Zut n w CB G L lp lv LB E ex c m) := by
 have HKS := zh HP.o.ks;have HN3 := zh HP.o.ca.n3;have hmb : m ≤ 1000000 := by have := HP.o.mb; omega
 have tm1 : IntKind.i64.wrap ((m : Int) + 1) = ((m + 1 : Nat) : Int) := by rw [IntWalk.i64_in _ (by omega)]; rfl
 have c3 := HP.o.ca.c3;go_enter Tryz.func36, Tryz.ntmps36;go_wp2_with fail;refine (Z2 CB G L 13 0 0 c.line ⟨#[]⟩ _ HKS.o.im (by unfold Zi; omega) (by unfold Zi; omega) (by unfold Zi; omega) HN3.o (Nat.zero_le _)).mono ?_;rintro e w1 ⟨z1, G1, rfl, zl1, zu1, hz, him, hG, ht⟩;have HZ1 := zh (show L.length < 60000 → z1 = ((L.length : Nat) : Int) from fun h => by have := hz (by omega); omega);have hks := HKS.o.step ht him hG (by simp);clear him hG ht hz;obtain ⟨L1, hL⟩ : ∃ z, z = L ++ [(⟨13, 0, 0, c.line, ⟨#[]⟩⟩ : Ze)] := ⟨_, rfl⟩;rw [← hL] at hks;have HL1 := zh (show L1 = L ++ ([Zg 13 0 c.line]) by rw [hL]; try simp [Zg]);have hl1 : L1.length = L.length + 1 := by rw [hL]; simp
 have HK1 := zh hks;clear hks hL;clear c3;go_wp2_with fail;refine (IH w1 CB G1 L1 lp lv LB E ex F c cb co A k (m + 1) (zh (HP.o.move HK1.o HP.o.exb))).mono ?_;rintro e w2 ⟨rfl, G2, E2, hks⟩;rw [hl1] at hks;replace hks := HK1.o.trans hks;have HK2 := zh hks;have c3 := (HP.o.ca.keep (fun _ h => h) (hks.keeps HP.o.fr)).c3;clear hks;go_wp2_with fail;refine (Z2 CB G2 _ 14 0 0 c.line ⟨#[]⟩ _ HK2.o.im (by unfold Zi; omega) (by unfold Zi; omega) (by unfold Zi; omega) HN3.o (Nat.zero_le _)).mono ?_;rintro e w3 ⟨z3, G3, rfl, zl3, zu3, hz, him, hG, ht⟩;have HK3 := zh (HK2.o.step ht him hG (by simp));clear him hG ht hz;go_wp2_with fail;go_ret;exact ⟨z1, G3, E2, rfl, zl1, zu1, fun h => by have := HZ1.o h; omega, HK3.o.cast (by rw [HL1.o]; simp [Zg]) rfl⟩
theorem Zrr (n : Nat) (IH : ∀ n', n = n' + 1 → Zb7 n') (w : World) (CB : Nat) (G : Nat → Prop) (L : List Ze) (lp : Option Zr) (lv : Value) (LB : Nat) (E : Nat → Prop) (ex : List Nat) (F : Nat → Prop) (c : Zd) (cb co : Nat) (A : Option Addr) (k m : Nat) (HP : Hd (Zbm n w CB G L lp lv LB E ex F c cb co A k m)) (ho : c.kind = 16) (hle : L.length ≤ 60000) :
  Calls Tryz.prog 82 #[.pointer (some ⟨CB, 0, none⟩), .pointer (some ⟨cb, co, none⟩), .int .i64 m, lv] w (Zbk n w CB G L lp lv LB E ex c m) := by
 have HO := zh ho;obtain ⟨L0, iv, ov, hi⟩ := HP.o.ks.im;obtain ⟨rfl, e0⟩ := hi.not_over hle;rw [e0] at hi;obtain ⟨Ai, ci, rfl, -⟩ := id hi.row;have b0 := cz2 hi.blk;have fb0 := fz hi.blk;clear hi e0 L0;have HKS := zh HP.o.ks;have HN3 := zh HP.o.ca.n3;have hmb : m ≤ 1000000 := by have := HP.o.mb; omega
 have tm1 : IntKind.i64.wrap ((m : Int) + 1) = ((m + 1 : Nat) : Int) := by rw [IntWalk.i64_in _ (by omega)]; rfl
 have hkn : 1 ≤ c.kids.length := by have := HP.o.ok.2.1; rw [ho] at this; exact this
 obtain ⟨n', rfl⟩ := HP.o.ca.lev (i := 0) (by omega);obtain ⟨n, rfl⟩ : ∃ z, z = n' := ⟨_, rfl⟩;obtain ⟨kb, ko, B0, q0, rfl, -⟩ := CAt.kid HP.o.ca.kids (i := 0) (by omega);have hkn2 : (1 : Int) ≤ (c.kids.length : Int) := by omega
 have hcnt := Zfw (c := c) hkn;have c0 := HP.o.ca.c0;have c3 := HP.o.ca.c3;have c5 := HP.o.ca.c5;rw [ho] at c0;clear ho;obtain ⟨A', k', ek, hkc, hkm, _⟩ := HP.o.ca.kids;have hks1 : (c.kids.length : Int) ≤ 9223372036854775807 := by unfold maxLen at hkm; cases ek; omega
 clear ek hkc hkm;go_enter Tryz.func82, Tryz.ntmps82;go_wp2_with fail
 go_loopw [14] (fun iv wr => ∃ j : Nat, j + 1 ≤ c.kids.length ∧ iv = .int .i64 j ∧ ∃ G' E', KS w wr CB G G' (L ++ (Zb1 (cg (n + 1)) (c.kids.take j) m lp L.length).1) lp lv LB E E' (ex ++ (Zb1 (cg (n + 1)) (c.kids.take j) m lp L.length).2)) (fun iv _ => c.kids.length - (intOf iv).toNat)
 case atStart => exact ⟨0, hkn, rfl, G, E, by simpa [Zb1] using HKS.o⟩
 case round =>
  obtain ⟨j, hj, rfl, G1, E1, hks⟩ := hrel;have HK1 := zh hks;clear hks;have hlt : j < c.kids.length := hj;have hgG : ∀ b, G1 b → G b ∨ w.heap.size ≤ b := HK1.o.gG;have hE : lp.isSome = true → ∀ b, F b → b ≠ LB ∧ ¬ E1 b := fun hp b hb => ⟨((HP.o.fr b hb).2.2 hp).1, fun he => by
   obtain ⟨x, hx⟩ := Option.isSome_iff_exists.1 hp
   rcases (HK1.o.lk x hx).2.2.2.2.2.2 b he with h1 | h1
   ·exact ((HP.o.fr b hb).2.2 hp).2 h1
   ·have := HP.o.flt b hb; omega⟩
  have hin : ∀ i, Zm c.kind i lp.isSome = lp.isSome := fun i => by rw [HO.o]; simp [Zm]
  have hxl : (Zb1 (cg (n + 1)) (c.kids.take j) m lp L.length).2.length ≤ Zx (c.kids.take j) := Zkp _ _ (fun x hx b => by
   obtain ⟨i, hi, rfl⟩ := List.getElem_of_mem hx;rw [List.length_take] at hi;rw [List.getElem_take];have := HP.o.ok.2.2.2 i (by omega);rw [hin] at this;exact Z1 _ _ _ _ _ this)
  have hct := Zdx c.kids j hlt;have tmj : IntKind.i64.wrap ((j : Int) + 1) = ((j + 1 : Nat) : Int) := by rw [IntWalk.i64_in _ (by omega)]; rfl
  obtain ⟨M, hM⟩ : ∃ z, z = L ++ (Zb1 (cg (n + 1)) (c.kids.take j) m lp L.length).1 := ⟨_, rfl⟩;have HM := zh hM;have hml : M.length = L.length + (Zb1 (cg (n + 1)) (c.kids.take j) m lp L.length).1.length := by rw [hM]; simp
  rw [← hM] at HK1;clear hM
  by_cases hl2 : j + 1 < c.kids.length
  ·have hlt' : ((j + 1 : Nat) : Int) < (c.kids.length : Int) := by omega
   obtain ⟨kb1, ko1, B1, q1, eA, HE1⟩ := HP.o.sub (i := j) (m1 := m + 1) (lp1 := lp) hlt HK1.o.tn.size (HK1.o.keeps (fun b hb => HP.o.fr b hb)) HK1.o.here hgG hE (hin j) (by omega) (fun x hx => Nat.le_trans (HP.o.lm x hx) (by omega)) (by have := HP.o.exb; have := Zq c; rw [Za4 hlt]; simp; omega);cases eA;go_wp2_with fail;refine (Zcs _ (IH _ rfl) _ CB G1 _ lp lv LB E1 _ F (c.kid j) kb (ko + j * 6) B1 q1 m HE1).mono ?_;rintro e w2 ⟨z2, G2, E2, rfl, zl2, zu2, hz, hks⟩;replace hks := HK1.o.trans hks;obtain ⟨r2, hr⟩ : ∃ z, z = cg (n + 1) (c.kid j) (m + 1) lp (M.length + 1) := ⟨_, rfl⟩;rw [← hr] at hks;have HR2 := zh hr;have HK2 := zh hks;clear hks hE hgG hxl hr;go_wp2_with fail;refine (Zbp CB G2 _ M.length z2 _ HK2.o.im (fun h => ⟨hz (by simp at h; omega), by simp⟩)).mono ?_;rintro e w3 ⟨rfl, him, ht⟩;have hks := HK2.o.step ht him (fun _ h => .inl h) (by rw [Zp]; exact Nat.le_refl _);have hpt := Zav (LL := M ++ (Zg 13 0 (c.kid j).line :: (r2.1 ++ [Zg 14 0 (c.kid j).line]))) (A := M) (B := r2.1 ++ [Zg 14 0 (c.kid j).line]) (op := 13) (a0 := 0) (l := (c.kid j).line) (i := M.length) (k := M.length + (r2.1.length + 2)) rfl rfl (by simp);rw [hpt] at hks;have HK3 := zh (show KS w w3 CB G G2 (L ++ (Zb1 (cg (n + 1)) (c.kids.take (j + 1)) m lp L.length).1) lp lv LB E E2 (ex ++ (Zb1 (cg (n + 1)) (c.kids.take (j + 1)) m lp L.length).2) from hks.cast (by rw [List.take_succ_eq_append_getElem hlt, Zf0, ← Za4 hlt, ← hml, HR2.o]; simp only [bnd, Zaq]; rw [HM.o]; simp) (by rw [List.take_succ_eq_append_getElem hlt, Zf0, ← Za4 hlt, ← hml, HR2.o]; simp))
   clear hks him ht hpt hz;go_wp2_with fail
   go_roundw
   case rel => exact ⟨j + 1, by omega, by go_num, G2, E2, HK3.o⟩
   case measure => simp [intOf]; omega
  ·have hjl : c.kids.length = j + 1 := by omega
   have hlt' : ¬ ((j + 1 : Nat) : Int) < (c.kids.length : Int) := by omega
   have tml : IntKind.i64.wrap ((c.kids.length : Int) - 1) = (j : Int) := by rw [IntWalk.i64_in _ (by omega)]; omega
   have hlt2 : (j : Int) < (c.kids.length : Int) := by omega
   obtain ⟨kb1, ko1, B1, q1, eA, HE1⟩ := HP.o.sub (i := j) (m1 := m) (lp1 := lp) hlt HK1.o.tn.size (HK1.o.keeps (fun b hb => HP.o.fr b hb)) HK1.o.here hgG hE (hin j) (by omega) HP.o.lm (by have := HP.o.exb; have := Zq c; rw [Za4 hlt]; simp; omega);cases eA;go_wp2_with fail;refine (IH _ rfl _ CB G1 _ lp lv LB E1 _ F (c.kid j) kb (ko + j * 6) B1 q1 m HE1).mono ?_;rintro e w2 ⟨rfl, G2, E2, hks⟩;have HK2 := zh (HK1.o.trans hks);clear hks hE hgG hxl;go_wp2_with fail
   go_end0
   refine ⟨rfl, G2, E2, ?_⟩;show KS w w2 CB G G2 (L ++ (Zk (cg (n + 1)) c m lp L.length).1) lp lv LB E E2 (ex ++ (Zk (cg (n + 1)) c m lp L.length).2);rw [Zfn HO.o];have hkk : c.kids = c.kids.take j ++ [c.kid j] := by
    rw [Za4 hlt, ← List.take_succ_eq_append_getElem hlt, ← hjl, List.take_length]
   have hblk : Zbt (cg (n + 1)) c.kids m lp L.length = ((Zb1 (cg (n + 1)) (c.kids.take j) m lp L.length).1 ++ (cg (n + 1) (c.kid j) m lp (L.length + (Zb1 (cg (n + 1)) (c.kids.take j) m lp L.length).1.length)).1, (Zb1 (cg (n + 1)) (c.kids.take j) m lp L.length).2 ++ (cg (n + 1) (c.kid j) m lp (L.length + (Zb1 (cg (n + 1)) (c.kids.take j) m lp L.length).1.length)).2) := (congrArg (fun l => Zbt (cg (n + 1)) l m lp L.length) hkk).trans (Zhw ..);rw [hblk, ← hml];exact HK2.o.cast (by rw [HM.o]; simp) (by simp)
theorem Zrs (n : Nat) (IH : ∀ n', n = n' + 1 → Zb7 n') (w : World) (CB : Nat) (G : Nat → Prop) (L : List Ze) (lp : Option Zr) (lv : Value) (LB : Nat) (E : Nat → Prop) (ex : List Nat) (F : Nat → Prop) (c : Zd) (cb co : Nat) (A : Option Addr) (k m : Nat) (HP : Hd (Zbm n w CB G L lp lv LB E ex F c cb co A k m)) (ho : c.kind = 17) (hle : L.length ≤ 60000) :
  Calls Tryz.prog 82 #[.pointer (some ⟨CB, 0, none⟩), .pointer (some ⟨cb, co, none⟩), .int .i64 m, lv] w (Zbk n w CB G L lp lv LB E ex c m) := by
 have HO := zh ho;obtain ⟨L0, iv, ov, hi⟩ := HP.o.ks.im;obtain ⟨rfl, e0⟩ := hi.not_over hle;rw [e0] at hi;obtain ⟨Ai, ci, rfl, -⟩ := id hi.row;have b0 := cz2 hi.blk;have fb0 := fz hi.blk;clear hi e0 L0;have HKS := zh HP.o.ks;have HN3 := zh HP.o.ca.n3;have hmb : m ≤ 1000000 := by have := HP.o.mb; omega
 have tm1 : IntKind.i64.wrap ((m : Int) + 1) = ((m + 1 : Nat) : Int) := by rw [IntWalk.i64_in _ (by omega)]; rfl
 have hkn : 3 ≤ c.kids.length := by have := HP.o.ok.2.1; rw [ho] at this; exact this
 obtain ⟨n', rfl⟩ := HP.o.ca.lev (i := 0) (by omega);obtain ⟨n, rfl⟩ : ∃ z, z = n' := ⟨_, rfl⟩;obtain ⟨kb, ko, B0, q0, rfl, -⟩ := CAt.kid HP.o.ca.kids (i := 0) (by omega);have hkn2 : (3 : Int) ≤ (c.kids.length : Int) := by omega
 have hcnt := Ztj (c := c) hkn;have c0 := HP.o.ca.c0;have c3 := HP.o.ca.c3;have c5 := HP.o.ca.c5;rw [ho] at c0;clear ho;go_enter Tryz.func82, Tryz.ntmps82;go_wp2_with fail;have hgG : ∀ b, G b → G b ∨ w.heap.size ≤ b := HKS.o.gG;have hE : lp.isSome = true → ∀ b, F b → b ≠ LB ∧ ¬ E b := fun hp b hb => ⟨((HP.o.fr b hb).2.2 hp).1, fun he => by
  obtain ⟨x, hx⟩ := Option.isSome_iff_exists.1 hp
  rcases (HKS.o.lk x hx).2.2.2.2.2.2 b he with h1 | h1
  ·exact ((HP.o.fr b hb).2.2 hp).2 h1
  ·have := HP.o.flt b hb; omega⟩
 obtain ⟨kb1, ko1, B1, q1, eA, HE1⟩ := HP.o.sub (i := 0) (m1 := m + 1) (lp1 := lp) (by omega) HKS.o.tn.size (HKS.o.keeps (fun b hb => HP.o.fr b hb)) HKS.o.here hgG hE (by rw [HO.o]; simp [Zm]) (by omega) (fun x hx => Nat.le_trans (HP.o.lm x hx) (by omega)) (by have := HP.o.exb; have := Zq c; omega);cases eA;refine (Zcs _ (IH _ rfl) w CB G L lp lv LB E ex F (c.kid 0) kb (ko + 0 * 6) B1 q1 (m) HE1).mono ?_;rintro e w1 ⟨z1, G1, E1, rfl, zl1, zu1, hz, hks⟩;have HZ1 := zh (show L.length < 60000 → z1 = ((L.length : Nat) : Int) from fun h => by have := hz (by omega); omega);clear hz;obtain ⟨r1, hr⟩ : ∃ z, z = cg (n + 1) (c.kid 0) (m + 1) (lp) (L.length + 1) := ⟨_, rfl⟩;rw [← hr] at hks;have HR1 := zh hr;have hq1 : r1.2.length ≤ Z0 (c.kid 0) := by rw [hr]; exact Z1 _ _ _ _ _ HE1.o.ok
 replace hks := HKS.o.trans hks;clear hr hgG hE;obtain ⟨x1, hx⟩ : ∃ z, z = ex ++ r1.2 := ⟨_, rfl⟩;rw [← hx] at hks;have HX1 := zh (show x1 = ex ++ (r1.2) by rw [hx]; try simp);have hxl1 : x1.length = ex.length + r1.2.length := by rw [hx]; simp
 clear hx;obtain ⟨L1, hL⟩ : ∃ z, z = L ++ (Zg 13 0 (c.kid 0).line :: (r1.1 ++ [Zg 14 0 (c.kid 0).line])) := ⟨_, rfl⟩;rw [← hL] at hks;have HL1 := zh (show L1 = L ++ ([Zg 13 0 (c.kid 0).line] ++ (r1.1 ++ ([Zg 14 0 (c.kid 0).line]))) by rw [hL]; try simp [Zg]);have hl1 : L1.length = L.length + r1.1.length + 2 := by rw [hL]; simp; omega
 have HK1 := zh hks;clear hks hL;go_wp2_with fail;have hgG : ∀ b, G1 b → G b ∨ w.heap.size ≤ b := HK1.o.gG;have hE : lp.isSome = true → ∀ b, F b → b ≠ LB ∧ ¬ E1 b := fun hp b hb => ⟨((HP.o.fr b hb).2.2 hp).1, fun he => by
  obtain ⟨x, hx⟩ := Option.isSome_iff_exists.1 hp
  rcases (HK1.o.lk x hx).2.2.2.2.2.2 b he with h1 | h1
  ·exact ((HP.o.fr b hb).2.2 hp).2 h1
  ·have := HP.o.flt b hb; omega⟩
 obtain ⟨kb2, ko2, B2, q2, eA, HE2⟩ := HP.o.sub (i := 1) (m1 := m) (lp1 := lp) (by omega) HK1.o.tn.size (HK1.o.keeps (fun b hb => HP.o.fr b hb)) HK1.o.here hgG hE (by rw [HO.o]; simp [Zm]) (by omega) (fun x hx => Nat.le_trans (HP.o.lm x hx) (by omega)) (by have := HP.o.exb; have := Zq c; have := hxl1; omega);cases eA;refine (IH _ rfl w1 CB G1 L1 lp lv LB E1 x1 F (c.kid 1) kb (ko + 1 * 6) B2 q2 (m) HE2).mono ?_;rintro e w2 ⟨rfl, G2, E2, hks⟩;rw [hl1] at hks;obtain ⟨r2, hr⟩ : ∃ z, z = cg (n + 1) (c.kid 1) (m) (lp) (L.length + r1.1.length + 2) := ⟨_, rfl⟩;rw [← hr] at hks;have HR2 := zh hr;have hq2 : r2.2.length ≤ Z0 (c.kid 1) := by rw [hr]; exact Z1 _ _ _ _ _ HE2.o.ok
 replace hks := HK1.o.trans hks;clear hr hgG hE;obtain ⟨x2, hx⟩ : ∃ z, z = x1 ++ r2.2 := ⟨_, rfl⟩;rw [← hx] at hks;have HX2 := zh (show x2 = ex ++ (r1.2 ++ (r2.2)) by rw [hx, HX1.o]; try simp);have hxl2 : x2.length = x1.length + r2.2.length := by rw [hx]; simp
 clear hx;obtain ⟨L2, hL⟩ : ∃ z, z = L1 ++ r2.1 := ⟨_, rfl⟩;rw [← hL] at hks;have HL2 := zh (show L2 = L ++ ([Zg 13 0 (c.kid 0).line] ++ (r1.1 ++ ([Zg 14 0 (c.kid 0).line] ++ (r2.1)))) by rw [hL, HL1.o]; try simp [Zg]);have hl2 : L2.length = L.length + r1.1.length + 2 + r2.1.length := by rw [hL]; simp [hl1]
 have HK2 := zh hks;clear hks hL;go_wp2_with fail;refine (Z2 CB G2 L2 15 0 0 c.line ⟨#[]⟩ _ HK2.o.im (by unfold Zi; omega) (by unfold Zi; omega) (by unfold Zi; omega) HN3.o (Nat.zero_le _)).mono ?_;rintro e w3 ⟨z3, G3, rfl, zl3, zu3, hz, him, hG, ht⟩;have HZ3 := zh (show L.length + r1.1.length + 2 + r2.1.length < 60000 → z3 = ((L.length + r1.1.length + 2 + r2.1.length : Nat) : Int) from fun h => by have := hz (by have := hl2; omega); have := hl2; omega);have hks := HK2.o.step ht him hG (by simp);clear him hG ht hz;obtain ⟨L3, hL⟩ : ∃ z, z = L2 ++ [(⟨15, 0, 0, c.line, ⟨#[]⟩⟩ : Ze)] := ⟨_, rfl⟩;rw [← hL] at hks;have HL3 := zh (show L3 = L ++ ([Zg 13 0 (c.kid 0).line] ++ (r1.1 ++ ([Zg 14 0 (c.kid 0).line] ++ (r2.1 ++ ([Zg 15 0 c.line]))))) by rw [hL, HL2.o]; try simp [Zg]);have hl3 : L3.length = L.length + r1.1.length + 2 + r2.1.length + 1 := by rw [hL]; simp [hl2]
 have HK3 := zh hks;clear hks hL;go_wp2_with fail;refine (Zbp CB G3 L3 (L.length) z1 _ HK3.o.im (fun h => ⟨by have := HZ1.o (by omega); omega, by omega⟩)).mono ?_;rintro e w4 ⟨rfl, him, ht⟩;have hks := HK3.o.step ht him (fun _ h => .inl h) (by rw [Zp]; exact Nat.le_refl _);clear him ht;have hpt := Zav (LL := L3) (A := L) (B := r1.1 ++ ([Zg 14 0 (c.kid 0).line] ++ (r2.1 ++ ([Zg 15 0 c.line])))) (op := 13) (a0 := 0) (l := (c.kid 0).line) (i := L.length) (k := L.length + r1.1.length + 2 + r2.1.length + 1) (by rw [HL3.o]; simp) (by simp; try omega) hl3;rw [hpt] at hks;obtain ⟨L4, hL⟩ : ∃ z, z = L ++ Zg 13 ((L.length + r1.1.length + 2 + r2.1.length + 1 : Nat) : Int) (c.kid 0).line :: (r1.1 ++ ([Zg 14 0 (c.kid 0).line] ++ (r2.1 ++ ([Zg 15 0 c.line])))) := ⟨_, rfl⟩;rw [← hL] at hks;have HL4 := zh (show L4 = L ++ ([Zg 13 ((L.length + r1.1.length + 2 + r2.1.length + 1 : Nat) : Int) (c.kid 0).line] ++ (r1.1 ++ ([Zg 14 0 (c.kid 0).line] ++ (r2.1 ++ ([Zg 15 0 c.line]))))) by rw [hL]; simp);have hl4 : L4.length = L.length + r1.1.length + 2 + r2.1.length + 1 := by rw [hL, ← hpt, Zp, hl3]
 have HK4 := zh hks;clear hks hL hpt;go_wp2_with fail;have hgG : ∀ b, G3 b → G b ∨ w.heap.size ≤ b := HK4.o.gG;have hE : lp.isSome = true → ∀ b, F b → b ≠ LB ∧ ¬ E2 b := fun hp b hb => ⟨((HP.o.fr b hb).2.2 hp).1, fun he => by
  obtain ⟨x, hx⟩ := Option.isSome_iff_exists.1 hp
  rcases (HK4.o.lk x hx).2.2.2.2.2.2 b he with h1 | h1
  ·exact ((HP.o.fr b hb).2.2 hp).2 h1
  ·have := HP.o.flt b hb; omega⟩
 obtain ⟨kb5, ko5, B5, q5, eA, HE5⟩ := HP.o.sub (i := 2) (m1 := m) (lp1 := lp) (by omega) HK4.o.tn.size (HK4.o.keeps (fun b hb => HP.o.fr b hb)) HK4.o.here hgG hE (by rw [HO.o]; simp [Zm]) (by omega) (fun x hx => Nat.le_trans (HP.o.lm x hx) (by omega)) (by have := HP.o.exb; have := Zq c; have := hxl1; have := hxl2; omega);cases eA;refine (IH _ rfl w4 CB G3 L4 lp lv LB E2 x2 F (c.kid 2) kb (ko + 2 * 6) B5 q5 (m) HE5).mono ?_;rintro e w5 ⟨rfl, G5, E5, hks⟩;rw [hl4] at hks;obtain ⟨r5, hr⟩ : ∃ z, z = cg (n + 1) (c.kid 2) (m) (lp) (L.length + r1.1.length + 2 + r2.1.length + 1) := ⟨_, rfl⟩;rw [← hr] at hks;have HR5 := zh hr;have hq5 : r5.2.length ≤ Z0 (c.kid 2) := by rw [hr]; exact Z1 _ _ _ _ _ HE5.o.ok
 replace hks := HK4.o.trans hks;clear hr hgG hE;obtain ⟨x5, hx⟩ : ∃ z, z = x2 ++ r5.2 := ⟨_, rfl⟩;rw [← hx] at hks;have HX5 := zh (show x5 = ex ++ (r1.2 ++ (r2.2 ++ (r5.2))) by rw [hx, HX2.o]; try simp);have hxl5 : x5.length = x2.length + r5.2.length := by rw [hx]; simp
 clear hx;obtain ⟨L5, hL⟩ : ∃ z, z = L4 ++ r5.1 := ⟨_, rfl⟩;rw [← hL] at hks;have HL5 := zh (show L5 = L ++ ([Zg 13 ((L.length + r1.1.length + 2 + r2.1.length + 1 : Nat) : Int) (c.kid 0).line] ++ (r1.1 ++ ([Zg 14 0 (c.kid 0).line] ++ (r2.1 ++ ([Zg 15 0 c.line] ++ (r5.1)))))) by rw [hL, HL4.o]; try simp [Zg]);have hl5 : L5.length = L.length + r1.1.length + 2 + r2.1.length + 1 + r5.1.length := by rw [hL]; simp [hl4]
 have HK5 := zh hks;clear hks hL;go_wp2_with fail;refine (Zbp CB G5 L5 (L.length + r1.1.length + 2 + r2.1.length) z3 _ HK5.o.im (fun h => ⟨by have := HZ3.o (by omega); omega, by omega⟩)).mono ?_;rintro e w6 ⟨rfl, him, ht⟩;have hks := HK5.o.step ht him (fun _ h => .inl h) (by rw [Zp]; exact Nat.le_refl _);clear him ht;have hpt := Zav (LL := L5) (A := L ++ ([Zg 13 ((L.length + r1.1.length + 2 + r2.1.length + 1 : Nat) : Int) (c.kid 0).line] ++ (r1.1 ++ ([Zg 14 0 (c.kid 0).line] ++ (r2.1))))) (B := r5.1) (op := 15) (a0 := 0) (l := c.line) (i := L.length + r1.1.length + 2 + r2.1.length) (k := L.length + r1.1.length + 2 + r2.1.length + 1 + r5.1.length) (by rw [HL5.o]; simp) (by simp; try omega) hl5;rw [hpt] at hks;obtain ⟨L6, hL⟩ : ∃ z, z = L ++ ([Zg 13 ((L.length + r1.1.length + 2 + r2.1.length + 1 : Nat) : Int) (c.kid 0).line] ++ (r1.1 ++ ([Zg 14 0 (c.kid 0).line] ++ (r2.1)))) ++ Zg 15 ((L.length + r1.1.length + 2 + r2.1.length + 1 + r5.1.length : Nat) : Int) c.line :: (r5.1) := ⟨_, rfl⟩;rw [← hL] at hks;have HL6 := zh (show L6 = L ++ ([Zg 13 ((L.length + r1.1.length + 2 + r2.1.length + 1 : Nat) : Int) (c.kid 0).line] ++ (r1.1 ++ ([Zg 14 0 (c.kid 0).line] ++ (r2.1 ++ ([Zg 15 ((L.length + r1.1.length + 2 + r2.1.length + 1 + r5.1.length : Nat) : Int) c.line] ++ (r5.1)))))) by rw [hL]; simp);have hl6 : L6.length = L.length + r1.1.length + 2 + r2.1.length + 1 + r5.1.length := by rw [hL, ← hpt, Zp, hl5]
 have HK6 := zh hks;clear hks hL hpt;go_wp2_with fail
 go_end0
 refine ⟨rfl, G5, E5, ?_⟩;show KS w w6 CB G G5 (L ++ (Zk (cg (n + 1)) c m lp L.length).1) lp lv LB E E5 (ex ++ (Zk (cg (n + 1)) c m lp L.length).2);rw [Zfo HO.o];simp only [bnd, Zaq];simp only [← HR1.o, ← HR2.o, ← HR5.o];refine HK6.o.cast ?_ ?_
 ·rw [HL6.o]; try simp [Nat.add_assoc]
 ·rw [HX5.o]; try simp
theorem Zl7 {LL A B : List Ze} {op a0 l : Int} {i k : Nat} (h : LL = A ++ Zg op a0 l :: B) (hi : i = A.length) : Zei i (k : Int) LL = A ++ Zg op k l :: B := by
 subst h hi;exact Zo6 _ _ _ _ rfl
theorem KS.loop {w0 w : World} {CB LB NB : Nat} {G0 G E0 E : Nat → Prop} {L : List Ze} {lp : Option Zr} {lv : Value} {ex : List Nat} {x : Zr} {bv : Int} (h : KS w0 w CB G0 G L lp lv LB E0 E ex)
  (hb : w.heap[NB]? = some (.cells #[.bool x.every, .int .i64 x.marks, .int .i64 bv, .slice none 0 0] Zlo (0, 0))) (hn : NB ≠ CB) (hg : ¬ G NB) (hbv : L.length ≤ 60000 → bv = x.begin_) (h64 : Zi bv) :
  KS w w CB G G L (some x) (.pointer (some ⟨NB, 0, none⟩)) NB (fun _ => False) (fun _ => False) [] :=
 KS.start h.im fun y hy => by
  cases hy
  exact ⟨rfl, ⟨bv, [], .slice none 0 0, hb, Zah.nil _ _ _ _ _, Nat.le_refl _, fun e => hbv (by simpa using e), fun _ => rfl, h64, fun h => h, fun _ h => h.elim⟩, hn, hg, fun h => h, fun _ h => h.elim⟩
theorem Zf6 {LL A M : List Ze} {ex : List Nat} {a : Int} {b : Nat} (h : LL = A ++ M) (hb : b = A.length) (hex : ∀ i ∈ ex, b ≤ i) : Zbz 0 a ex LL = A ++ Zbz b a ex M := by
 subst h hb;exact Zj7 a ex A M hex
theorem Zrt (n : Nat) (IH : ∀ n', n = n' + 1 → Zb7 n') (w : World) (CB : Nat) (G : Nat → Prop) (L : List Ze) (lp : Option Zr) (lv : Value) (LB : Nat) (E : Nat → Prop) (ex : List Nat) (F : Nat → Prop) (c : Zd) (cb co : Nat) (A : Option Addr) (k m : Nat) (HP : Hd (Zbm n w CB G L lp lv LB E ex F c cb co A k m)) (ho : c.kind = 18) (hle : L.length ≤ 60000) :
  Calls Tryz.prog 82 #[.pointer (some ⟨CB, 0, none⟩), .pointer (some ⟨cb, co, none⟩), .int .i64 m, lv] w (Zbk n w CB G L lp lv LB E ex c m) := by
 have HO := zh ho;obtain ⟨L0, iv, ov, hi⟩ := HP.o.ks.im;obtain ⟨rfl, e0⟩ := hi.not_over hle;rw [e0] at hi;obtain ⟨Ai, ci, rfl, -⟩ := id hi.row;have b0 := cz2 hi.blk;have fb0 := fz hi.blk;clear hi e0 L0;have HKS := zh HP.o.ks;have HN3 := zh HP.o.ca.n3;have hmb : m ≤ 1000000 := by have := HP.o.mb; omega
 have tm1 : IntKind.i64.wrap ((m : Int) + 1) = ((m + 1 : Nat) : Int) := by rw [IntWalk.i64_in _ (by omega)]; rfl
 have hkn : 2 ≤ c.kids.length := by have := HP.o.ok.2.1; rw [ho] at this; exact this
 obtain ⟨n', rfl⟩ := HP.o.ca.lev (i := 0) (by omega);obtain ⟨n, rfl⟩ : ∃ z, z = n' := ⟨_, rfl⟩;obtain ⟨kb, ko, B0, q0, rfl, -⟩ := CAt.kid HP.o.ca.kids (i := 0) (by omega);have hkn2 : (2 : Int) ≤ (c.kids.length : Int) := by omega
 have hcnt := Ze3 (c := c) hkn;have c0 := HP.o.ca.c0;have c3 := HP.o.ca.c3;have c5 := HP.o.ca.c5;rw [ho] at c0;clear ho;go_enter Tryz.func82, Tryz.ntmps82;go_wp2_with fail;refine (Z2 CB G L 18 0 0 c.line ⟨#[]⟩ _ HKS.o.im (by unfold Zi; omega) (by unfold Zi; omega) (by unfold Zi; omega) HN3.o (Nat.zero_le _)).mono ?_;rintro e w1 ⟨z1, G1, rfl, zl1, zu1, hz, him, hG, ht⟩;have HZ1 := zh (show L.length < 60000 → z1 = ((L.length : Nat) : Int) from fun h => by have := hz (by omega); omega);have hks := HKS.o.step ht him hG (by simp);clear him hG ht hz;obtain ⟨L1, hL⟩ : ∃ z, z = L ++ [(⟨18, 0, 0, c.line, ⟨#[]⟩⟩ : Ze)] := ⟨_, rfl⟩;rw [← hL] at hks;have HL1 := zh (show L1 = L ++ ([Zg 18 0 c.line]) by rw [hL]; try simp [Zg]);have hl1 : L1.length = L.length + 1 := by rw [hL]; simp
 have HK1 := zh hks;clear hks hL;have hNL : lp.isSome = true → w.heap.size ≠ LB ∧ LB < w.heap.size ∧ ∀ b, E b → b < w.heap.size := fun hp => by
  obtain ⟨y, hy⟩ := Option.isSome_iff_exists.1 hp;obtain ⟨-, ⟨_, _, _, hlk⟩, -⟩ := HKS.o.lk y hy;have := Zc hlk.blk;exact ⟨by omega, this, hlk.lt⟩
 have hX : Za w1 (w1.alloc (.cells #[.bool false, .int .i64 m, .int .i64 z1, .slice none 0 0] Zlo)) := (Za.refl _).alloc _;obtain ⟨wA, hwA⟩ : ∃ z, w1.alloc (.cells #[.bool false, .int .i64 m, .int .i64 z1, .slice none 0 0] Zlo) = z := ⟨_, rfl⟩;rw [hwA] at hX;have HKA := zh (HK1.o.later hX);have HJA := zh (HKA.o.none_ lv);have HNA := zh (show wA.heap[w1.heap.size]? = some (.cells #[.bool false, .int .i64 m, .int .i64 z1, .slice none 0 0] Zlo (0, 0)) by rw [← hwA]; exact heap_alloc_new _ _);have hNsz : wA.heap.size = w1.heap.size + 1 := by rw [← hwA]; simp
 have hNC : w1.heap.size ≠ CB ∧ ∀ b, G1 b → b < w1.heap.size := by
  obtain ⟨_, _, _, hi⟩ := HK1.o.im;have := Zc hi.blk;exact ⟨by omega, fun b hb => by have := hi.lt b hb; omega⟩
 have hNw : w.heap.size ≤ w1.heap.size := by have := HK1.o.tn.size; omega
 clear hX b0 fb0;go_wp2_with fail
 try rw [hwA]
 clear hwA;have hgG : ∀ b, G1 b → G b ∨ w.heap.size ≤ b := HKA.o.gG;obtain ⟨kb2, ko2, B2, q2, eA, HE2⟩ := HP.o.sub (i := 0) (m1 := m + 1) (lp1 := none) (by omega) HKA.o.tn.size (HKA.o.keeps (fun b hb => HP.o.fr b hb)) (HKA.o.none_ lv) hgG (fun h => by simp at h) (by rw [HO.o]; simp [Zm]) (by omega) (fun x hx => by simp at hx) (by have := HP.o.exb; have := Zq c; simp; omega);cases eA;refine (Zcs _ (IH _ rfl) wA CB G1 L1 none lv 0 (fun _ => False) [] F (c.kid 0) kb (ko + 0 * 6) B2 q2 (m) HE2).mono ?_;rintro e w2 ⟨z2, G2, E2, rfl, zl2, zu2, hz, hks⟩;rw [hl1] at hks;have HZ2 := zh (show L.length + 1 < 60000 → z2 = ((L.length + 1 : Nat) : Int) from fun h => by have := hz (by have := hl1; omega); have := hl1; omega);clear hz;obtain ⟨r2, hr⟩ : ∃ z, z = cg (n + 1) (c.kid 0) (m + 1) (none) (L.length + 1 + 1) := ⟨_, rfl⟩;rw [← hr] at hks;have HR2 := zh hr;have hq2 : r2.2.length ≤ Z0 (c.kid 0) := by rw [hr]; exact Z1 _ _ _ _ _ HE2.o.ok
 have hni := HJA.o.trans hks;replace hks := HKA.o.back hks (fun h => by simp at h) (by simp);clear hr hgG;obtain ⟨L2, hL⟩ : ∃ z, z = L1 ++ (Zg 13 0 (c.kid 0).line :: (r2.1 ++ [Zg 14 0 (c.kid 0).line])) := ⟨_, rfl⟩;rw [← hL] at hks hni;have HL2 := zh (show L2 = L ++ ([Zg 18 0 c.line] ++ ([Zg 13 0 (c.kid 0).line] ++ (r2.1 ++ ([Zg 14 0 (c.kid 0).line])))) by rw [hL, HL1.o]; try simp [Zg]);have hl2 : L2.length = L.length + 1 + r2.1.length + 2 := by rw [hL]; simp [hl1]; omega
 have HK2 := zh hks;have HJ2 := zh hni;clear hni;clear hks hL;have HNB := zh (HJ2.o.tn.has HNA.o (fun hp => by
  rcases hp with h | h | ⟨h, -⟩
  ·exact hNC.1 h
  ·exact absurd (hNC.2 _ h) (Nat.lt_irrefl _)
  ·simp at h))
 have hGN : ¬ G2 w1.heap.size := fun hg => by
  rcases HJ2.o.gG w1.heap.size hg with h | h
  ·exact absurd (hNC.2 _ h) (Nat.lt_irrefl _)
  ·omega
 go_wp2_with fail;have hgG : ∀ b, G2 b → G b ∨ w.heap.size ≤ b := HK2.o.gG;obtain ⟨kb3, ko3, B3, q3, eA, HE3⟩ := HP.o.sub (i := 1) (m1 := m + 1) (lp1 := (some (⟨false, m, L.length⟩ : Zr))) (by omega) HK2.o.tn.size (HK2.o.keeps (fun b hb => HP.o.fr b hb)) (HK2.o.loop (x := ⟨false, m, L.length⟩) (bv := z1) HNB.o hNC.1 hGN (fun h => HZ1.o (by omega)) (by unfold Zi; omega)) hgG (fun _ b hb => ⟨by have := HP.o.flt b hb; omega, fun h => h⟩) (by rw [HO.o]; simp [Zm]) (by omega) (fun x hx => by cases hx; simp) (by have := HP.o.exb; have := Zq c; simp; omega);cases eA;refine (Zcs _ (IH _ rfl) w2 CB G2 L2 (some (⟨false, m, L.length⟩ : Zr)) (.pointer (some ⟨w1.heap.size, 0, none⟩)) w1.heap.size (fun _ => False) [] F (c.kid 1) kb (ko + 1 * 6) B3 q3 (m) HE3).mono ?_;rintro e w3 ⟨z3, G3, E3, rfl, zl3, zu3, hz, hks⟩;rw [hl2] at hks;have HZ3 := zh (show L.length + 1 + r2.1.length + 2 < 60000 → z3 = ((L.length + 1 + r2.1.length + 2 : Nat) : Int) from fun h => by have := hz (by have := hl2; omega); have := hl2; omega);clear hz;obtain ⟨r3, hr⟩ : ∃ z, z = cg (n + 1) (c.kid 1) (m + 1) ((some (⟨false, m, L.length⟩ : Zr))) (L.length + 1 + r2.1.length + 2 + 1) := ⟨_, rfl⟩;rw [← hr] at hks;have HR3 := zh hr;have hq3 : r3.2.length ≤ Z0 (c.kid 1) := by rw [hr]; exact Z1 _ _ _ _ _ HE3.o.ok
 have hni := hks;replace hks := HK2.o.back hks (fun _ => ⟨hNw, fun _ h => h.elim, fun hp => ⟨by have := hNL hp; omega, fun he => by have := (hNL hp).2.2 _ he; omega, fun h => h, fun _ h => h.elim⟩⟩) (by simp);have hxr : ∀ i ∈ r3.2, L.length ≤ i ∧ i < L.length + 1 + r2.1.length + 2 + 1 + r3.1.length := fun i hi => by
  rw [hr] at hi ⊢;have := Zdk _ _ _ _ _ i hi
  omega
 have HXR := zh hxr;clear hxr;clear hr hgG;obtain ⟨L3, hL⟩ : ∃ z, z = L2 ++ (Zg 13 0 (c.kid 1).line :: (r3.1 ++ [Zg 14 0 (c.kid 1).line])) := ⟨_, rfl⟩;rw [← hL] at hks hni;have HL3 := zh (show L3 = L ++ ([Zg 18 0 c.line] ++ ([Zg 13 0 (c.kid 0).line] ++ (r2.1 ++ ([Zg 14 0 (c.kid 0).line] ++ ([Zg 13 0 (c.kid 1).line] ++ (r3.1 ++ ([Zg 14 0 (c.kid 1).line]))))))) by rw [hL, HL2.o]; try simp [Zg]);have hl3 : L3.length = L.length + 1 + r2.1.length + 2 + r3.1.length + 2 := by rw [hL]; simp [hl2]; omega
 have HK3 := zh hks;have HJ3 := zh hni;clear hni;clear hks hL;obtain ⟨M0, iv, ov, hi⟩ := HK3.o.im;obtain ⟨-, ⟨bv, exs, ev, hlk⟩, -⟩ := HJ3.o.lk _ rfl;obtain ⟨Ai, ci, rfl, -⟩ := id hi.row;have b0 := cz2 hi.blk;have fb0 := fz hi.blk;have HI3 := zh hi;have HLK3 := zh hlk;clear hi hlk;obtain ⟨P3, hP3⟩ : ∃ z, z = L.length + 1 + r2.1.length + 2 := ⟨_, rfl⟩
 cases ov with
 | true =>
  have hov := (HI3.o.on rfl).2;have hks := HK3.o.over hov (L' := Zei (L.length + 1 + r2.1.length + 2) ((L.length : Nat) : Int) L3) (ex' := ex) (by rw [Zp]; exact Nat.le_refl _) (Nat.le_refl _);have hni := HJ3.o.over hov (L' := Zei (L.length + 1 + r2.1.length + 2) ((L.length : Nat) : Int) L3) (ex' := [] ++ r3.2) (by rw [Zp]; exact Nat.le_refl _) (Nat.le_refl _);have hpt := Zl7 (LL := L3) (A := L ++ ([Zg 18 0 c.line] ++ ([Zg 13 0 (c.kid 0).line] ++ (r2.1 ++ ([Zg 14 0 (c.kid 0).line]))))) (B := r3.1 ++ ([Zg 14 0 (c.kid 1).line])) (op := 13) (a0 := 0) (l := (c.kid 1).line) (i := L.length + 1 + r2.1.length + 2) (k := L.length) (by rw [HL3.o]; simp) (by simp; try omega);rw [hpt] at hks hni;obtain ⟨L4, hL⟩ : ∃ z, z = L ++ ([Zg 18 0 c.line] ++ ([Zg 13 0 (c.kid 0).line] ++ (r2.1 ++ ([Zg 14 0 (c.kid 0).line])))) ++ Zg 13 ((L.length : Nat) : Int) (c.kid 1).line :: (r3.1 ++ ([Zg 14 0 (c.kid 1).line])) := ⟨_, rfl⟩;rw [← hL] at hks hni;have HL4 := zh (show L4 = L ++ ([Zg 18 0 c.line] ++ ([Zg 13 0 (c.kid 0).line] ++ (r2.1 ++ ([Zg 14 0 (c.kid 0).line] ++ ([Zg 13 ((L.length : Nat) : Int) (c.kid 1).line] ++ (r3.1 ++ ([Zg 14 0 (c.kid 1).line]))))))) by rw [hL]; simp);have hl4 : L4.length = L.length + 1 + r2.1.length + 2 + r3.1.length + 2 := by rw [hL, ← hpt, Zp, hl3]
  have HK4 := zh hks;have HJ4 := zh hni;clear hni;clear hks hL hpt;obtain ⟨-, ⟨bvy, exsy, evy, hlk⟩, -⟩ := HJ4.o.lk _ rfl;have HLY := zh hlk;have h64y := hlk.bv64;have l0 := cz4 hlk.blk;have fl0 := fz hlk.blk;clear hlk;go_wp2_with fail;refine (Z2 CB G3 L4 15 bvy 0 c.line ⟨#[]⟩ _ HK4.o.im (by unfold Zi; omega) h64y (by unfold Zi; omega) HN3.o (Nat.zero_le _)).mono ?_;rintro e w5 ⟨z5, G5, rfl, zl5, zu5, hz, him, hG, ht⟩;have HZ5 := zh (show L.length + 1 + r2.1.length + 2 + r3.1.length + 2 < 60000 → z5 = ((L.length + 1 + r2.1.length + 2 + r3.1.length + 2 : Nat) : Int) from fun h => by have := hz (by have := hl4; omega); have := hl4; omega);have hks := HK4.o.step ht him hG (by simp);have hni := HJ4.o.step ht him hG (by simp);clear him hG ht hz;replace hks := hks.relabel (y := ((L.length : Nat) : Int)) (fun h => by exact HLY.o.beg (nT (by omega)));replace hni := hni.relabel (y := ((L.length : Nat) : Int)) (fun h => by exact HLY.o.beg (nT (by omega)));obtain ⟨L5, hL⟩ : ∃ z, z = L4 ++ [(⟨15, ((L.length : Nat) : Int), 0, c.line, ⟨#[]⟩⟩ : Ze)] := ⟨_, rfl⟩;rw [← hL] at hks hni;have HL5 := zh (show L5 = L ++ ([Zg 18 0 c.line] ++ ([Zg 13 0 (c.kid 0).line] ++ (r2.1 ++ ([Zg 14 0 (c.kid 0).line] ++ ([Zg 13 ((L.length : Nat) : Int) (c.kid 1).line] ++ (r3.1 ++ ([Zg 14 0 (c.kid 1).line] ++ ([Zg 15 ((L.length : Nat) : Int) c.line])))))))) by rw [hL, HL4.o]; try simp [Zg]);have hl5 : L5.length = L.length + 1 + r2.1.length + 2 + r3.1.length + 2 + 1 := by rw [hL]; simp [hl4]
  have HK5 := zh hks;have HJ5 := zh hni;clear hni;clear hks hL;clear l0 fl0;go_wp2_with fail;refine (Zbp CB G5 L5 (L.length + 1) z2 _ HK5.o.im (fun h => ⟨by have := HZ2.o (by omega); omega, by omega⟩)).mono ?_;rintro e w6 ⟨rfl, him, ht⟩;have hks := HK5.o.step ht him (fun _ h => .inl h) (by rw [Zp]; exact Nat.le_refl _);have hni := HJ5.o.step ht him (fun _ h => .inl h) (by rw [Zp]; exact Nat.le_refl _);clear him ht;have hpt := Zav (LL := L5) (A := L ++ ([Zg 18 0 c.line])) (B := r2.1 ++ ([Zg 14 0 (c.kid 0).line] ++ ([Zg 13 ((L.length : Nat) : Int) (c.kid 1).line] ++ (r3.1 ++ ([Zg 14 0 (c.kid 1).line] ++ ([Zg 15 ((L.length : Nat) : Int) c.line])))))) (op := 13) (a0 := 0) (l := (c.kid 0).line) (i := L.length + 1) (k := L.length + 1 + r2.1.length + 2 + r3.1.length + 2 + 1) (by rw [HL5.o]; simp) (by simp; try omega) hl5;rw [hpt] at hks hni;obtain ⟨L6, hL⟩ : ∃ z, z = L ++ ([Zg 18 0 c.line]) ++ Zg 13 ((L.length + 1 + r2.1.length + 2 + r3.1.length + 2 + 1 : Nat) : Int) (c.kid 0).line :: (r2.1 ++ ([Zg 14 0 (c.kid 0).line] ++ ([Zg 13 ((L.length : Nat) : Int) (c.kid 1).line] ++ (r3.1 ++ ([Zg 14 0 (c.kid 1).line] ++ ([Zg 15 ((L.length : Nat) : Int) c.line])))))) := ⟨_, rfl⟩;rw [← hL] at hks hni;have HL6 := zh (show L6 = L ++ ([Zg 18 0 c.line] ++ ([Zg 13 ((L.length + 1 + r2.1.length + 2 + r3.1.length + 2 + 1 : Nat) : Int) (c.kid 0).line] ++ (r2.1 ++ ([Zg 14 0 (c.kid 0).line] ++ ([Zg 13 ((L.length : Nat) : Int) (c.kid 1).line] ++ (r3.1 ++ ([Zg 14 0 (c.kid 1).line] ++ ([Zg 15 ((L.length : Nat) : Int) c.line])))))))) by rw [hL]; simp)
  have hl6 : L6.length = L.length + 1 + r2.1.length + 2 + r3.1.length + 2 + 1 := by rw [hL, ← hpt, Zp, hl5]
  have HK6 := zh hks;have HJ6 := zh hni;clear hni;clear hks hL hpt;go_wp2_with fail;refine (Z2 CB G5 L6 16 0 0 c.line ⟨#[]⟩ _ HK6.o.im (by unfold Zi; omega) (by unfold Zi; omega) (by unfold Zi; omega) HN3.o (Nat.zero_le _)).mono ?_;rintro e w7 ⟨z7, G7, rfl, zl7, zu7, hz, him, hG, ht⟩;have HZ7 := zh (show L.length + 1 + r2.1.length + 2 + r3.1.length + 2 + 1 < 60000 → z7 = ((L.length + 1 + r2.1.length + 2 + r3.1.length + 2 + 1 : Nat) : Int) from fun h => by have := hz (by have := hl6; omega); have := hl6; omega);have hks := HK6.o.step ht him hG (by simp);have hni := HJ6.o.step ht him hG (by simp);clear him hG ht hz;obtain ⟨L7, hL⟩ : ∃ z, z = L6 ++ [(⟨16, 0, 0, c.line, ⟨#[]⟩⟩ : Ze)] := ⟨_, rfl⟩;rw [← hL] at hks hni;have HL7 := zh (show L7 = L ++ ([Zg 18 0 c.line] ++ ([Zg 13 ((L.length + 1 + r2.1.length + 2 + r3.1.length + 2 + 1 : Nat) : Int) (c.kid 0).line] ++ (r2.1 ++ ([Zg 14 0 (c.kid 0).line] ++ ([Zg 13 ((L.length : Nat) : Int) (c.kid 1).line] ++ (r3.1 ++ ([Zg 14 0 (c.kid 1).line] ++ ([Zg 15 ((L.length : Nat) : Int) c.line] ++ ([Zg 16 0 c.line]))))))))) by rw [hL, HL6.o]; try simp [Zg]);have hl7 : L7.length = L.length + 1 + r2.1.length + 2 + r3.1.length + 2 + 1 + 1 := by rw [hL]; simp [hl6]
  have HK7 := zh hks;have HJ7 := zh hni;clear hni;clear hks hL;obtain ⟨-, ⟨bvx, exsx, evx, hlk⟩, hd1, hd2, hd3, hd4, -⟩ := HJ7.o.lk _ rfl;have HLX := zh hlk;have HDX := zh (And.intro hd1 (And.intro hd2 (And.intro hd3 hd4)));clear hlk hd1 hd2 hd3 hd4;go_wp2_with fail;refine (Zht CB G7 L7 w1.heap.size _ _ _ _ _ _ w7 HK7.o.im HLX.o HDX.o (by have := HP.o.exb; have := Zq c; simp; omega) (fun i hi => by have := (HXR.o i (by simpa using hi)).2; omega)).mono ?_;rintro e wZ ⟨rfl, him, ht⟩;have hks := HK7.o.step ht him (fun _ h => .inl h) (by rw [Zbo]; exact Nat.le_refl _);clear him ht;have HKZ := zh hks;clear hks;go_wp2_with fail
  go_end0
  refine ⟨rfl, G7, E, ?_⟩;show KS w wZ CB G G7 (L ++ (Zk (cg (n + 1)) c m lp L.length).1) lp lv LB E E (ex ++ (Zk (cg (n + 1)) c m lp L.length).2);rw [Zem HO.o];simp only [bnd, Zaq];simp only [← HR2.o, ← Nat.add_assoc, ← HR3.o];refine HKZ.o.cast ?_ (by simp);refine (Zf6 (A := L) HL7.o rfl (fun i hi => by have := (HXR.o i (by simpa using hi)).1; omega)).trans ?_;rw [hl7];simp [Zg, Nat.add_assoc]
 | false =>
  obtain rfl := HI3.o.off rfl;have hle3 := HI3.o.le;obtain rfl : z3 = (P3 : Int) := (HZ3.o (by omega)).trans (by rw [hP3]);have hbv : bv = ((L.length : Nat) : Int) := HLK3.o.beg (nT hle3);subst hbv;have hP3l : P3 < M0.length := by omega
  have hP3i : (P3 : Int) < (M0.length : Int) := by omega
  obtain ⟨b, cp, e, -⟩ := HI3.o.patch hP3l (a := ((L.length : Nat) : Int)) ⟨by omega, by omega⟩;cases e;have HP3 := zh hP3;clear hP3;go_upto_region 52 with (fail);refine Z3 [11] [] (by kernel_rfl) (fun W3 hW3 => ?_);have hlW : Za w3 W3 := by rw [hW3]; exact (Za.refl _).drew
  clear hW3 b0 fb0;have HIW := zh (HI3.o.later hlW);have HLW3 := zh (HLK3.o.keep (Zb.later hlW));have HKW := zh (HK3.o.later hlW);have HJW := zh (HJ3.o.later hlW);clear hlW;refine tU 0 229 (v := ?_) rfl rfl (fun x hx => ?_) ?_;rotate_left
  ·go_simp;first|done|with_reducible rfl
  simp only [Act.put, nA, nB, nC];refine tU 1 230 (v := ?_) rfl rfl (fun x hx => ?_) ?_;rotate_left
  ·go_simp;first|done|with_reducible rfl
  simp only [Act.put, nA, nB, nC];refine tU 2 231 (v := ?_) rfl rfl (fun x hx => ?_) ?_;rotate_left
  ·go_simp;first|done|with_reducible rfl
  simp only [Act.put, nA, nB, nC];refine tU 3 232 (v := ?_) rfl rfl (fun x hx => ?_) ?_;rotate_left
  ·have hxb := (hx.block _ (Zc HIW.o.blk)).trans HIW.o.blk; have hxl := (hx.block _ (Zc HLW3.o.blk)).trans HLW3.o.blk; have b0 := cz2 hxb; have fb0 := fz hxb; have l0 := cz4 hxl; have fl0 := fz hxl; go_simp; first|done|with_reducible rfl
  simp only [Act.put, nA, nB, nC];refine tU 4 233 (v := ?_) rfl rfl (fun x hx => ?_) ?_;rotate_left
  ·go_simp;first|done|with_reducible rfl
  simp only [Act.put, nA, nB, nC];refine tU 5 234 (v := ?_) rfl rfl (fun x hx => ?_) ?_;rotate_left
  ·go_simp;first|done|with_reducible rfl
  simp only [Act.put, nA, nB, nC];refine tU 6 235 (v := ?_) rfl rfl (fun x hx => ?_) ?_;rotate_left
  ·go_simp;first|done|with_reducible rfl
  simp only [Act.put, nA, nB, nC];refine tU 7 236 (v := ?_) rfl rfl (fun x hx => ?_) ?_;rotate_left
  ·go_simp;first|done|with_reducible rfl
  simp only [Act.put, nA, nB, nC];refine tU 8 237 (v := ?_) rfl rfl (fun x hx => ?_) ?_;rotate_left
  ·have hxb := (hx.block _ (Zc HIW.o.blk)).trans HIW.o.blk; have hxl := (hx.block _ (Zc HLW3.o.blk)).trans HLW3.o.blk; have b0 := cz2 hxb; have fb0 := fz hxb; have l0 := cz4 hxl; have fl0 := fz hxl; go_simp; first|done|with_reducible rfl
  simp only [Act.put, nA, nB, nC];refine tU 9 238 (v := ?_) rfl rfl (fun x hx => ?_) ?_;rotate_left
  ·go_simp;first|done|with_reducible rfl|rw[if_neg (by omega)]|rw[if_pos (by omega)]
  simp only [Act.put, nA, nB, nC];refine tU 10 239 (v := ?_) rfl rfl (fun x hx => ?_) ?_;rotate_left
  ·go_simp;first|done|with_reducible rfl
  simp only [Act.put, nA, nB, nC];refine Zag [_] (by kernel_rfl) rfl rfl ?_;simp only [List.getElem_toArray, List.getElem_cons_succ, List.getElem_cons_zero];obtain ⟨b', c', e, h1, h2, hG, hb, ⟨u, hu⟩, hfr, him⟩ := HIW.o.patch hP3l (a := ((L.length : Nat) : Int)) ⟨by omega, by omega⟩;cases e;have hfu := hfr (P3 * 5 + 1);obtain ⟨w4, hw4⟩ : ∃ z, W3.setCell ⟨b, P3 * 5 + 1, none⟩ (.int .i64 ((L.length : Nat) : Int)) = z := ⟨_, rfl⟩;have ht : Tn (fun b => b = CB ∨ G3 b) W3 (W3.setCell ⟨b, P3 * 5 + 1, none⟩ (.int .i64 ((L.length : Nat) : Int))) := Tn.set (Tn.refl _ _) (.inr hG) _ _;rw [hw4] at him ht;have hks := HKW.o.step ht ⟨_, _, _, him⟩ (fun _ h => .inl h) (by rw [Zp]; exact Nat.le_refl _);have hni := HJW.o.step ht ⟨_, _, _, him⟩ (fun _ h => .inl h) (by rw [Zp]; exact Nat.le_refl _);clear him ht hfr;rw [HP3.o] at hks hni;have hpt := Zl7 (LL := M0) (A := L ++ ([Zg 18 0 c.line] ++ ([Zg 13 0 (c.kid 0).line] ++ (r2.1 ++ ([Zg 14 0 (c.kid 0).line]))))) (B := r3.1 ++ ([Zg 14 0 (c.kid 1).line])) (op := 13) (a0 := 0) (l := (c.kid 1).line) (i := L.length + 1 + r2.1.length + 2) (k := L.length) (by rw [HL3.o]; simp) (by simp; try omega);rw [hpt] at hks hni;obtain ⟨L4, hL⟩ : ∃ z, z = L ++ ([Zg 18 0 c.line] ++ ([Zg 13 0 (c.kid 0).line] ++ (r2.1 ++ ([Zg 14 0 (c.kid 0).line])))) ++ Zg 13 ((L.length : Nat) : Int) (c.kid 1).line :: (r3.1 ++ ([Zg 14 0 (c.kid 1).line])) := ⟨_, rfl⟩;rw [← hL] at hks hni;have HL4 := zh (show L4 = L ++ ([Zg 18 0 c.line] ++ ([Zg 13 0 (c.kid 0).line] ++ (r2.1 ++ ([Zg 14 0 (c.kid 0).line] ++ ([Zg 13 ((L.length : Nat) : Int) (c.kid 1).line] ++ (r3.1 ++ ([Zg 14 0 (c.kid 1).line]))))))) by rw [hL]; simp)
  have hl4 : L4.length = L.length + 1 + r2.1.length + 2 + r3.1.length + 2 := by rw [hL, ← hpt, Zp, hl3]
  have HK4 := zh hks;have HJ4 := zh hni;clear hni;clear hks hL hpt;obtain ⟨-, ⟨bvy, exsy, evy, hlk⟩, -⟩ := HJ4.o.lk _ rfl;have HLY := zh hlk;have h64y := hlk.bv64;have l0 := cz4 hlk.blk;have fl0 := fz hlk.blk;clear hlk;go_wp2_with fail;refine (Z2 CB G3 L4 15 bvy 0 c.line ⟨#[]⟩ _ HK4.o.im (by unfold Zi; omega) h64y (by unfold Zi; omega) HN3.o (Nat.zero_le _)).mono ?_;rintro e w5 ⟨z5, G5, rfl, zl5, zu5, hz, him, hG, ht⟩;have HZ5 := zh (show L.length + 1 + r2.1.length + 2 + r3.1.length + 2 < 60000 → z5 = ((L.length + 1 + r2.1.length + 2 + r3.1.length + 2 : Nat) : Int) from fun h => by have := hz (by have := hl4; omega); have := hl4; omega);have hks := HK4.o.step ht him hG (by simp);have hni := HJ4.o.step ht him hG (by simp);clear him hG ht hz;replace hks := hks.relabel (y := ((L.length : Nat) : Int)) (fun h => by exact HLY.o.beg (nT (by omega)));replace hni := hni.relabel (y := ((L.length : Nat) : Int)) (fun h => by exact HLY.o.beg (nT (by omega)));obtain ⟨L5, hL⟩ : ∃ z, z = L4 ++ [(⟨15, ((L.length : Nat) : Int), 0, c.line, ⟨#[]⟩⟩ : Ze)] := ⟨_, rfl⟩;rw [← hL] at hks hni;have HL5 := zh (show L5 = L ++ ([Zg 18 0 c.line] ++ ([Zg 13 0 (c.kid 0).line] ++ (r2.1 ++ ([Zg 14 0 (c.kid 0).line] ++ ([Zg 13 ((L.length : Nat) : Int) (c.kid 1).line] ++ (r3.1 ++ ([Zg 14 0 (c.kid 1).line] ++ ([Zg 15 ((L.length : Nat) : Int) c.line])))))))) by rw [hL, HL4.o]; try simp [Zg]);have hl5 : L5.length = L.length + 1 + r2.1.length + 2 + r3.1.length + 2 + 1 := by rw [hL]; simp [hl4]
  have HK5 := zh hks;have HJ5 := zh hni;clear hni;clear hks hL;clear l0 fl0;go_wp2_with fail;refine (Zbp CB G5 L5 (L.length + 1) z2 _ HK5.o.im (fun h => ⟨by have := HZ2.o (by omega); omega, by omega⟩)).mono ?_;rintro e w6 ⟨rfl, him, ht⟩;have hks := HK5.o.step ht him (fun _ h => .inl h) (by rw [Zp]; exact Nat.le_refl _);have hni := HJ5.o.step ht him (fun _ h => .inl h) (by rw [Zp]; exact Nat.le_refl _);clear him ht;have hpt := Zav (LL := L5) (A := L ++ ([Zg 18 0 c.line])) (B := r2.1 ++ ([Zg 14 0 (c.kid 0).line] ++ ([Zg 13 ((L.length : Nat) : Int) (c.kid 1).line] ++ (r3.1 ++ ([Zg 14 0 (c.kid 1).line] ++ ([Zg 15 ((L.length : Nat) : Int) c.line])))))) (op := 13) (a0 := 0) (l := (c.kid 0).line) (i := L.length + 1) (k := L.length + 1 + r2.1.length + 2 + r3.1.length + 2 + 1) (by rw [HL5.o]; simp) (by simp; try omega) hl5;rw [hpt] at hks hni;obtain ⟨L6, hL⟩ : ∃ z, z = L ++ ([Zg 18 0 c.line]) ++ Zg 13 ((L.length + 1 + r2.1.length + 2 + r3.1.length + 2 + 1 : Nat) : Int) (c.kid 0).line :: (r2.1 ++ ([Zg 14 0 (c.kid 0).line] ++ ([Zg 13 ((L.length : Nat) : Int) (c.kid 1).line] ++ (r3.1 ++ ([Zg 14 0 (c.kid 1).line] ++ ([Zg 15 ((L.length : Nat) : Int) c.line])))))) := ⟨_, rfl⟩;rw [← hL] at hks hni;have HL6 := zh (show L6 = L ++ ([Zg 18 0 c.line] ++ ([Zg 13 ((L.length + 1 + r2.1.length + 2 + r3.1.length + 2 + 1 : Nat) : Int) (c.kid 0).line] ++ (r2.1 ++ ([Zg 14 0 (c.kid 0).line] ++ ([Zg 13 ((L.length : Nat) : Int) (c.kid 1).line] ++ (r3.1 ++ ([Zg 14 0 (c.kid 1).line] ++ ([Zg 15 ((L.length : Nat) : Int) c.line])))))))) by rw [hL]; simp)
  have hl6 : L6.length = L.length + 1 + r2.1.length + 2 + r3.1.length + 2 + 1 := by rw [hL, ← hpt, Zp, hl5]
  have HK6 := zh hks;have HJ6 := zh hni;clear hni;clear hks hL hpt;go_wp2_with fail;refine (Z2 CB G5 L6 16 0 0 c.line ⟨#[]⟩ _ HK6.o.im (by unfold Zi; omega) (by unfold Zi; omega) (by unfold Zi; omega) HN3.o (Nat.zero_le _)).mono ?_;rintro e w7 ⟨z7, G7, rfl, zl7, zu7, hz, him, hG, ht⟩;have HZ7 := zh (show L.length + 1 + r2.1.length + 2 + r3.1.length + 2 + 1 < 60000 → z7 = ((L.length + 1 + r2.1.length + 2 + r3.1.length + 2 + 1 : Nat) : Int) from fun h => by have := hz (by have := hl6; omega); have := hl6; omega);have hks := HK6.o.step ht him hG (by simp);have hni := HJ6.o.step ht him hG (by simp);clear him hG ht hz;obtain ⟨L7, hL⟩ : ∃ z, z = L6 ++ [(⟨16, 0, 0, c.line, ⟨#[]⟩⟩ : Ze)] := ⟨_, rfl⟩;rw [← hL] at hks hni;have HL7 := zh (show L7 = L ++ ([Zg 18 0 c.line] ++ ([Zg 13 ((L.length + 1 + r2.1.length + 2 + r3.1.length + 2 + 1 : Nat) : Int) (c.kid 0).line] ++ (r2.1 ++ ([Zg 14 0 (c.kid 0).line] ++ ([Zg 13 ((L.length : Nat) : Int) (c.kid 1).line] ++ (r3.1 ++ ([Zg 14 0 (c.kid 1).line] ++ ([Zg 15 ((L.length : Nat) : Int) c.line] ++ ([Zg 16 0 c.line]))))))))) by rw [hL, HL6.o]; try simp [Zg]);have hl7 : L7.length = L.length + 1 + r2.1.length + 2 + r3.1.length + 2 + 1 + 1 := by rw [hL]; simp [hl6]
  have HK7 := zh hks;have HJ7 := zh hni;clear hni;clear hks hL;obtain ⟨-, ⟨bvx, exsx, evx, hlk⟩, hd1, hd2, hd3, hd4, -⟩ := HJ7.o.lk _ rfl;have HLX := zh hlk;have HDX := zh (And.intro hd1 (And.intro hd2 (And.intro hd3 hd4)));clear hlk hd1 hd2 hd3 hd4;go_wp2_with fail;refine (Zht CB G7 L7 w1.heap.size _ _ _ _ _ _ w7 HK7.o.im HLX.o HDX.o (by have := HP.o.exb; have := Zq c; simp; omega) (fun i hi => by have := (HXR.o i (by simpa using hi)).2; omega)).mono ?_;rintro e wZ ⟨rfl, him, ht⟩;have hks := HK7.o.step ht him (fun _ h => .inl h) (by rw [Zbo]; exact Nat.le_refl _);clear him ht;have HKZ := zh hks;clear hks;go_wp2_with fail
  go_end0
  refine ⟨rfl, G7, E, ?_⟩;show KS w wZ CB G G7 (L ++ (Zk (cg (n + 1)) c m lp L.length).1) lp lv LB E E (ex ++ (Zk (cg (n + 1)) c m lp L.length).2);rw [Zem HO.o];simp only [bnd, Zaq];simp only [← HR2.o, ← Nat.add_assoc, ← HR3.o];refine HKZ.o.cast ?_ (by simp);refine (Zf6 (A := L) HL7.o rfl (fun i hi => by have := (HXR.o i (by simpa using hi)).1; omega)).trans ?_;rw [hl7];simp [Zg, Nat.add_assoc]
theorem Zru (n : Nat) (IH : ∀ n', n = n' + 1 → Zb7 n') (w : World) (CB : Nat) (G : Nat → Prop) (L : List Ze) (lp : Option Zr) (lv : Value) (LB : Nat) (E : Nat → Prop) (ex : List Nat) (F : Nat → Prop) (c : Zd) (cb co : Nat) (A : Option Addr) (k m : Nat) (HP : Hd (Zbm n w CB G L lp lv LB E ex F c cb co A k m)) (ho : c.kind = 19) (hle : L.length ≤ 60000) :
  Calls Tryz.prog 82 #[.pointer (some ⟨CB, 0, none⟩), .pointer (some ⟨cb, co, none⟩), .int .i64 m, lv] w (Zbk n w CB G L lp lv LB E ex c m) := by
 have HO := zh ho;obtain ⟨L0, iv, ov, hi⟩ := HP.o.ks.im;obtain ⟨rfl, e0⟩ := hi.not_over hle;rw [e0] at hi;obtain ⟨Ai, ci, rfl, -⟩ := id hi.row;have b0 := cz2 hi.blk;have fb0 := fz hi.blk;clear hi e0 L0;have HKS := zh HP.o.ks;have HN3 := zh HP.o.ca.n3;have hmb : m ≤ 1000000 := by have := HP.o.mb; omega
 have tm1 : IntKind.i64.wrap ((m : Int) + 1) = ((m + 1 : Nat) : Int) := by rw [IntWalk.i64_in _ (by omega)]; rfl
 have hkn : 2 ≤ c.kids.length := by have := HP.o.ok.2.1; rw [ho] at this; exact this
 obtain ⟨n', rfl⟩ := HP.o.ca.lev (i := 0) (by omega);obtain ⟨n, rfl⟩ : ∃ z, z = n' := ⟨_, rfl⟩;obtain ⟨kb, ko, B0, q0, rfl, -⟩ := CAt.kid HP.o.ca.kids (i := 0) (by omega);have hkn2 : (2 : Int) ≤ (c.kids.length : Int) := by omega
 have hcnt := Ze3 (c := c) hkn;have c0 := HP.o.ca.c0;have c3 := HP.o.ca.c3;have c5 := HP.o.ca.c5;rw [ho] at c0;clear ho;go_enter Tryz.func82, Tryz.ntmps82;have hNL : lp.isSome = true → w.heap.size ≠ LB ∧ LB < w.heap.size ∧ ∀ b, E b → b < w.heap.size := fun hp => by
  obtain ⟨y, hy⟩ := Option.isSome_iff_exists.1 hp;obtain ⟨-, ⟨_, _, _, hlk⟩, -⟩ := HKS.o.lk y hy;have := Zc hlk.blk;exact ⟨by omega, this, hlk.lt⟩
 have hX : Za w (w.alloc (.cells #[.bool true, .int .i64 m, .int .i64 0, .slice none 0 0] Zlo)) := (Za.refl _).alloc _;obtain ⟨wA, hwA⟩ : ∃ z, w.alloc (.cells #[.bool true, .int .i64 m, .int .i64 0, .slice none 0 0] Zlo) = z := ⟨_, rfl⟩;rw [hwA] at hX;have HKA := zh (HKS.o.later hX);have HJA := zh (HKA.o.none_ lv);have HNA := zh (show wA.heap[w.heap.size]? = some (.cells #[.bool true, .int .i64 m, .int .i64 0, .slice none 0 0] Zlo (0, 0)) by rw [← hwA]; exact heap_alloc_new _ _);have hNsz : wA.heap.size = w.heap.size + 1 := by rw [← hwA]; simp
 have hNC : w.heap.size ≠ CB ∧ ∀ b, G b → b < w.heap.size := by
  obtain ⟨_, _, _, hi⟩ := HKS.o.im;have := Zc hi.blk;exact ⟨by omega, fun b hb => by have := hi.lt b hb; omega⟩
 have hNw : w.heap.size ≤ w.heap.size := by have := HKS.o.tn.size; omega
 clear hX;go_wp2_with fail
 try rw [hwA]
 clear hwA;refine (Z2 CB G L 13 (-1) 0 c.line ⟨#[]⟩ _ HKA.o.im (by unfold Zi; omega) (by unfold Zi; omega) (by unfold Zi; omega) HN3.o (Nat.zero_le _)).mono ?_;rintro e w1 ⟨z1, G1, rfl, zl1, zu1, hz, him, hG, ht⟩;have HZ1 := zh (show L.length < 60000 → z1 = ((L.length : Nat) : Int) from fun h => by have := hz (by omega); omega);have hks := HKA.o.step ht him hG (by simp);have hni := HJA.o.step ht him hG (by simp);clear him hG ht hz;obtain ⟨L1, hL⟩ : ∃ z, z = L ++ [(⟨13, (-1), 0, c.line, ⟨#[]⟩⟩ : Ze)] := ⟨_, rfl⟩;rw [← hL] at hks hni;have HL1 := zh (show L1 = L ++ ([Zg 13 (-1) c.line]) by rw [hL]; try simp [Zg]);have hl1 : L1.length = L.length + 1 := by rw [hL]; simp
 have HK1 := zh hks;have HJ1 := zh hni;clear hni;clear hks hL;go_wp2_with fail;have hgG : ∀ b, G1 b → G b ∨ w.heap.size ≤ b := HK1.o.gG;obtain ⟨kb2, ko2, B2, q2, eA, HE2⟩ := HP.o.sub (i := 0) (m1 := m + 1) (lp1 := none) (by omega) HK1.o.tn.size (HK1.o.keeps (fun b hb => HP.o.fr b hb)) (HK1.o.none_ lv) hgG (fun h => by simp at h) (by rw [HO.o]; simp [Zm]) (by omega) (fun x hx => by simp at hx) (by have := HP.o.exb; have := Zq c; simp; omega);cases eA;refine (IH _ rfl w1 CB G1 L1 none lv 0 (fun _ => False) [] F (c.kid 0) kb (ko + 0 * 6) B2 q2 (m + 1) HE2).mono ?_;rintro e w2 ⟨rfl, G2, E2, hks⟩;rw [hl1] at hks;obtain ⟨r2, hr⟩ : ∃ z, z = cg (n + 1) (c.kid 0) (m + 1) (none) (L.length + 1) := ⟨_, rfl⟩;rw [← hr] at hks;have HR2 := zh hr;have hq2 : r2.2.length ≤ Z0 (c.kid 0) := by rw [hr]; exact Z1 _ _ _ _ _ HE2.o.ok
 have hni := HJ1.o.trans hks;replace hks := HK1.o.back hks (fun h => by simp at h) (by simp);clear hr hgG;obtain ⟨L2, hL⟩ : ∃ z, z = L1 ++ r2.1 := ⟨_, rfl⟩;rw [← hL] at hks hni;have HL2 := zh (show L2 = L ++ ([Zg 13 (-1) c.line] ++ (r2.1)) by rw [hL, HL1.o]; try simp [Zg]);have hl2 : L2.length = L.length + 1 + r2.1.length := by rw [hL]; simp [hl1]
 have HK2 := zh hks;have HJ2 := zh hni;clear hni;clear hks hL;go_wp2_with fail;refine (Z2 CB G2 L2 30 0 0 c.line ⟨#[]⟩ _ HK2.o.im (by unfold Zi; omega) (by unfold Zi; omega) (by unfold Zi; omega) HN3.o (Nat.zero_le _)).mono ?_;rintro e w3 ⟨z3, G3, rfl, zl3, zu3, hz, him, hG, ht⟩;have HZ3 := zh (show L.length + 1 + r2.1.length < 60000 → z3 = ((L.length + 1 + r2.1.length : Nat) : Int) from fun h => by have := hz (by have := hl2; omega); have := hl2; omega);have hks := HK2.o.step ht him hG (by simp);have hni := HJ2.o.step ht him hG (by simp);clear him hG ht hz;obtain ⟨L3, hL⟩ : ∃ z, z = L2 ++ [(⟨30, 0, 0, c.line, ⟨#[]⟩⟩ : Ze)] := ⟨_, rfl⟩;rw [← hL] at hks hni;have HL3 := zh (show L3 = L ++ ([Zg 13 (-1) c.line] ++ (r2.1 ++ ([Zg 30 0 c.line]))) by rw [hL, HL2.o]; try simp [Zg]);have hl3 : L3.length = L.length + 1 + r2.1.length + 1 := by rw [hL]; simp [hl2]
 have HK3 := zh hks;have HJ3 := zh hni;clear hni;clear hks hL;have HNB := zh (HJ3.o.tn.has HNA.o (fun hp => by
  rcases hp with h | h | ⟨h, -⟩
  ·exact hNC.1 h
  ·exact absurd (hNC.2 _ h) (Nat.lt_irrefl _)
  ·simp at h))
 have hGN : ¬ G3 w.heap.size := fun hg => by
  rcases HJ3.o.gG w.heap.size hg with h | h
  ·exact absurd (hNC.2 _ h) (Nat.lt_irrefl _)
  ·omega
 go_wp2_with fail;have hgG : ∀ b, G3 b → G b ∨ w.heap.size ≤ b := HK3.o.gG;obtain ⟨kb4, ko4, B4, q4, eA, HE4⟩ := HP.o.sub (i := 1) (m1 := m + 1 + 1) (lp1 := (some (⟨true, m, 0⟩ : Zr))) (by omega) HK3.o.tn.size (HK3.o.keeps (fun b hb => HP.o.fr b hb)) (HK3.o.loop (x := ⟨true, m, 0⟩) (bv := 0) HNB.o hNC.1 hGN (fun _ => rfl) (by unfold Zi; omega)) hgG (fun _ b hb => ⟨by have := HP.o.flt b hb; omega, fun h => h⟩) (by rw [HO.o]; simp [Zm]) (by omega) (fun x hx => by cases hx; simp) (by have := HP.o.exb; have := Zq c; simp; omega);cases eA;refine (Zcs _ (IH _ rfl) w3 CB G3 L3 (some (⟨true, m, 0⟩ : Zr)) (.pointer (some ⟨w.heap.size, 0, none⟩)) w.heap.size (fun _ => False) [] F (c.kid 1) kb (ko + 1 * 6) B4 q4 (m + 1) HE4).mono ?_;rintro e w4 ⟨z4, G4, E4, rfl, zl4, zu4, hz, hks⟩;rw [hl3] at hks;have HZ4 := zh (show L.length + 1 + r2.1.length + 1 < 60000 → z4 = ((L.length + 1 + r2.1.length + 1 : Nat) : Int) from fun h => by have := hz (by have := hl3; omega); have := hl3; omega);clear hz;obtain ⟨r4, hr⟩ : ∃ z, z = cg (n + 1) (c.kid 1) (m + 1 + 1) ((some (⟨true, m, 0⟩ : Zr))) (L.length + 1 + r2.1.length + 1 + 1) := ⟨_, rfl⟩;rw [← hr] at hks;have HR4 := zh hr;have hq4 : r4.2.length ≤ Z0 (c.kid 1) := by rw [hr]; exact Z1 _ _ _ _ _ HE4.o.ok
 have hni := hks;replace hks := HK3.o.back hks (fun _ => ⟨hNw, fun _ h => h.elim, fun hp => ⟨by have := hNL hp; omega, fun he => by have := (hNL hp).2.2 _ he; omega, fun h => h, fun _ h => h.elim⟩⟩) (by simp);have hxr : ∀ i ∈ r4.2, L.length ≤ i ∧ i < L.length + 1 + r2.1.length + 1 + 1 + r4.1.length := fun i hi => by
  rw [hr] at hi ⊢;have := Zdk _ _ _ _ _ i hi
  omega
 have HXR := zh hxr;clear hxr;clear hr hgG;obtain ⟨L4, hL⟩ : ∃ z, z = L3 ++ (Zg 13 0 (c.kid 1).line :: (r4.1 ++ [Zg 14 0 (c.kid 1).line])) := ⟨_, rfl⟩;rw [← hL] at hks hni;have HL4 := zh (show L4 = L ++ ([Zg 13 (-1) c.line] ++ (r2.1 ++ ([Zg 30 0 c.line] ++ ([Zg 13 0 (c.kid 1).line] ++ (r4.1 ++ ([Zg 14 0 (c.kid 1).line])))))) by rw [hL, HL3.o]; try simp [Zg]);have hl4 : L4.length = L.length + 1 + r2.1.length + 1 + r4.1.length + 2 := by rw [hL]; simp [hl3]; omega
 have HK4 := zh hks;have HJ4 := zh hni;clear hni;clear hks hL;go_wp2_with fail;refine (Zbp CB G4 L4 (L.length + 1 + r2.1.length + 1) z4 _ HK4.o.im (fun h => ⟨by have := HZ4.o (by omega); omega, by omega⟩)).mono ?_;rintro e w5 ⟨rfl, him, ht⟩;have hks := HK4.o.step ht him (fun _ h => .inl h) (by rw [Zp]; exact Nat.le_refl _);have hni := HJ4.o.step ht him (fun _ h => .inl h) (by rw [Zp]; exact Nat.le_refl _);clear him ht;have hpt := Zav (LL := L4) (A := L ++ ([Zg 13 (-1) c.line] ++ (r2.1 ++ ([Zg 30 0 c.line])))) (B := r4.1 ++ ([Zg 14 0 (c.kid 1).line])) (op := 13) (a0 := 0) (l := (c.kid 1).line) (i := L.length + 1 + r2.1.length + 1) (k := L.length + 1 + r2.1.length + 1 + r4.1.length + 2) (by rw [HL4.o]; simp) (by simp; try omega) hl4;rw [hpt] at hks hni;obtain ⟨L5, hL⟩ : ∃ z, z = L ++ ([Zg 13 (-1) c.line] ++ (r2.1 ++ ([Zg 30 0 c.line]))) ++ Zg 13 ((L.length + 1 + r2.1.length + 1 + r4.1.length + 2 : Nat) : Int) (c.kid 1).line :: (r4.1 ++ ([Zg 14 0 (c.kid 1).line])) := ⟨_, rfl⟩;rw [← hL] at hks hni;have HL5 := zh (show L5 = L ++ ([Zg 13 (-1) c.line] ++ (r2.1 ++ ([Zg 30 0 c.line] ++ ([Zg 13 ((L.length + 1 + r2.1.length + 1 + r4.1.length + 2 : Nat) : Int) (c.kid 1).line] ++ (r4.1 ++ ([Zg 14 0 (c.kid 1).line])))))) by rw [hL]; simp);have hl5 : L5.length = L.length + 1 + r2.1.length + 1 + r4.1.length + 2 := by rw [hL, ← hpt, Zp, hl4]
 have HK5 := zh hks;have HJ5 := zh hni;clear hni;clear hks hL hpt;go_wp2_with fail;refine (Z2 CB G4 L5 16 0 0 c.line ⟨#[]⟩ _ HK5.o.im (by unfold Zi; omega) (by unfold Zi; omega) (by unfold Zi; omega) HN3.o (Nat.zero_le _)).mono ?_;rintro e w6 ⟨z6, G6, rfl, zl6, zu6, hz, him, hG, ht⟩;have HZ6 := zh (show L.length + 1 + r2.1.length + 1 + r4.1.length + 2 < 60000 → z6 = ((L.length + 1 + r2.1.length + 1 + r4.1.length + 2 : Nat) : Int) from fun h => by have := hz (by have := hl5; omega); have := hl5; omega);have hks := HK5.o.step ht him hG (by simp);have hni := HJ5.o.step ht him hG (by simp);clear him hG ht hz;obtain ⟨L6, hL⟩ : ∃ z, z = L5 ++ [(⟨16, 0, 0, c.line, ⟨#[]⟩⟩ : Ze)] := ⟨_, rfl⟩;rw [← hL] at hks hni;have HL6 := zh (show L6 = L ++ ([Zg 13 (-1) c.line] ++ (r2.1 ++ ([Zg 30 0 c.line] ++ ([Zg 13 ((L.length + 1 + r2.1.length + 1 + r4.1.length + 2 : Nat) : Int) (c.kid 1).line] ++ (r4.1 ++ ([Zg 14 0 (c.kid 1).line] ++ ([Zg 16 0 c.line]))))))) by rw [hL, HL5.o]; try simp [Zg]);have hl6 : L6.length = L.length + 1 + r2.1.length + 1 + r4.1.length + 2 + 1 := by rw [hL]; simp [hl5]
 have HK6 := zh hks;have HJ6 := zh hni;clear hni;clear hks hL;obtain ⟨-, ⟨bvx, exsx, evx, hlk⟩, hd1, hd2, hd3, hd4, -⟩ := HJ6.o.lk _ rfl;have HLX := zh hlk;have HDX := zh (And.intro hd1 (And.intro hd2 (And.intro hd3 hd4)));clear hlk hd1 hd2 hd3 hd4;go_wp2_with fail;refine (Zht CB G6 L6 w.heap.size _ _ _ _ _ _ w6 HK6.o.im HLX.o HDX.o (by have := HP.o.exb; have := Zq c; simp; omega) (fun i hi => by have := (HXR.o i (by simpa using hi)).2; omega)).mono ?_;rintro e wZ ⟨rfl, him, ht⟩;have hks := HK6.o.step ht him (fun _ h => .inl h) (by rw [Zbo]; exact Nat.le_refl _);clear him ht;have HKZ := zh hks;clear hks;go_wp2_with fail
 go_end0
 refine ⟨rfl, G6, E, ?_⟩;show KS w wZ CB G G6 (L ++ (Zk (cg (n + 1)) c m lp L.length).1) lp lv LB E E (ex ++ (Zk (cg (n + 1)) c m lp L.length).2);rw [Zfp HO.o];simp only [bnd, Zaq];simp only [← HR2.o, ← HR4.o];refine HKZ.o.cast ?_ (by simp);refine (Zf6 (A := L) HL6.o rfl (fun i hi => by have := (HXR.o i (by simpa using hi)).1; omega)).trans ?_;rw [hl6];simp [Zg, Nat.add_assoc]
theorem KS.broke {w0 w X Y : World} {CB LB : Nat} {G0 G E0 E : Nat → Prop} {L : List Ze} {x : Zr} {lv : Value} {ex : List Nat} {bv : Int} {exs : List Int} {ev v2 : Value} {z : Int} {i : Nat}
  (h : KS w0 w CB G0 G L (some x) lv LB E0 E ex) (hl : LpK w LB E x ex (decide (L.length ≤ 60000)) bv exs ev) (hz : L.length ≤ 60000 → z = i) (hX : Za w X) (hrow : Zah Zc1 1 Zco (fun b => E b ∨ False ∨ b = X.heap.size) Y (exs ++ [z]) v2) (hk : Zb (fun b => ¬ E b) X Y) (hb : Below 0 X Y) :
  KS w0 (Y.setCell ⟨LB, 3, none⟩ v2) CB G0 G L (some x) lv LB E0 (fun b => (E b ∨ False ∨ b = X.heap.size) ∧ b < Y.heap.size) (ex ++ [i]) := by
 have hsz := h.tn.size;have hXs := hX.size;obtain ⟨a, -, c, d, e, f, g⟩ := h.lk x rfl;obtain ⟨L0, iv, ov, hi⟩ := h.im;have hCB := Zc hi.blk;have hT : Tn (fun b => b = LB ∨ E b) w (Y.setCell ⟨LB, 3, none⟩ v2) := Tn.set (Tn.trans (R := fun b => b = LB ∨ E b) (Tn.later (P := fun _ => False) hX) (Tn.mk (P := E) hk hb) (fun _ h => h.elim) (fun b _ hb => .inr hb)) (c := LB) (.inl rfl) 3 v2;refine ⟨⟨L0, iv, ov, hi.keep (hT.keeps fun b hb hp => ?_)⟩, fun y hy => ?_, Tn.trans h.tn hT (fun _ h => h) (fun b hl hb => ?_), h.gG⟩
 ·rcases hb with rfl | hb
  ·rcases hp with hp | hp
   ·exact c hp.symm
   ·exact e hp
  ·rcases hp with rfl | hp
   ·exact d hb
   ·exact f b hp hb
 ·cases hy
  refine ⟨a, ⟨bv, exs ++ [z], v2, hl.push (H := fun _ => False) (fun hq => hz (by simpa using hq)) hX (fun _ h => h.elim) hrow hk⟩, c, d, ?_, ?_, ?_⟩
  ·rintro ⟨h1 | h1 | h1, -⟩
   ·exact e h1
   ·exact h1
   ·omega
  ·rintro b ⟨h1 | h1 | h1, -⟩ hg
   ·exact f b h1 hg
   ·exact h1
   ·have := hi.lt b hg; omega
  ·rintro b ⟨h1 | h1 | h1, -⟩
   ·exact g b h1
   ·exact h1.elim
   ·exact .inr (by omega)
 ·rcases hb with rfl | hb
  ·exact .inr (.inr ⟨rfl, .inl rfl⟩)
  ·rcases g b hb with h1 | h1
   ·exact .inr (.inr ⟨rfl, .inr h1⟩)
   ·omega
section
section
variable {P : Program} {ops : Array Oper} {Q : Exit → Act → World → Prop} {S : World → Prop}
def wpV (P : Program) (ops : Array Oper) (Q : Exit → Act → World → Prop) (L U : List Nat) (S : World → Prop) (fuel : Nat) (listed : Array Bool) (a : Act) (w : World) : Prop :=
 Zdg P .any ops Q (Zh3 L U) (Zjo U) S fuel listed a w
theorem Zhe (L U : List Nat) (S : World → Prop) {id : Nat} {a : Act} {w : World} (hm : P.follows .mixedOrders = true)
  (h : ∀ w1, w1 = w.drew → wpV P ops Q L U S ops.size (Array.replicate ops.size false) a w1) : (Code.region id ops true).wp P Q a w :=
 wp_region_any hm (Zgg _ _ _ _ (h w.drew rfl))
theorem Zrv (i : Nat) (d : Option Tmp) {L U : List Nat} {oi : Oper} {v : Value} {fuel : Nat} {listed : Array Bool} {a : Act} {w : World} (hi : ops[i]? = some oi) (hd : oi.dst = d)
  (hB : Zjd ops L listed i = true)
  (hQ : ∀ c a w, Q (.panic c) (a.put d v) w → Q (.panic c) a w)
  (hw : Region.wanted oi (yielded ops a.tmps) = true) (hS : S w) (hy : ∀ x, S x → (execOp a.eval oi).run P x = .ok (.value v) x)
  (h : wpV P ops Q L U S fuel (listed.setIfInBounds i true) (a.put d v) w) : wpV P ops Q L U S (fuel + 1) listed a w := by
 subst hd;simp only [Zjd, Bool.and_eq_true] at hB;obtain ⟨⟨⟨⟨hs, hf⟩, hr⟩, hc⟩, ht⟩ := hB;refine Zgh hi (Region.noSelect_spec hs) hQ (fun j _ htj => ?_) fuel listed a w (Region.free_spec hi hf) (Ziu hc) (by simpa using hr) (.inl ⟨hw, hy⟩) hS h;simp only [Zh3, Bool.or_eq_true] at htj
 rcases htj with h1 | h1
 ·exact .inr (List.all_eq_true.1 ht j (by simpa using h1))
 ·exact .inl h1
theorem tV (i d : Nat) {L U : List Nat} {oi : Oper} {v : Value} {fuel : Nat} {listed : Array Bool} {a : Act} {w : World} (hi : ops[i]? = some oi) (hd : oi.dst = some d) (hS : S w) (hy : ∀ x, S x → (execOp a.eval oi).run P x = .ok (.value v) x)
  (h : wpV P ops Q L U S fuel (listed.setIfInBounds i true) (a.put (some d) v) w) (hB : Zjd ops L listed i = true := by kernel_rfl) (hQ : ∀ c a w, Q (.panic c) (a.put (some d) v) w → Q (.panic c) a w := by exact fun _ _ _ h => h) (hw : Region.wanted oi (yielded ops a.tmps) = true := by rfl) : wpV P ops Q L U S (fuel + 1) listed a w := Zrv i (some d) hi hd hB hQ hw hS hy h
theorem Zk3 (i : Nat) (d : Option Tmp) {L U : List Nat} {oi : Oper} {v : Value} {fuel : Nat} {listed : Array Bool} {a : Act} {w : World} (hi : ops[i]? = some oi) (hd : oi.dst = d)
  (hB : Zt7 ops U listed i = true)
  (hQ : ∀ c a w, Q (.panic c) (a.put d v) w → Q (.panic c) a w)
  (hw : Region.wanted oi (yielded ops a.tmps) = true) (hy : ∀ x, (execOp a.eval oi).run P x = .ok (.value v) x)
  (h : wpV P ops Q L U S fuel (listed.setIfInBounds i true) (a.put d v) w) : wpV P ops Q L U S (fuel + 1) listed a w := by
 subst hd;simp only [Zt7, Bool.and_eq_true] at hB;obtain ⟨⟨⟨hs, hf⟩, hr⟩, hu⟩ := hB;exact Zjc hi (Region.noSelect_spec hs) hQ (by simp only [Zh3, Bool.or_eq_true]; exact .inr hu) fuel listed a w (Region.free_spec hi hf) (by simpa using hr) (.inl ⟨hw, fun x _ => hy x⟩) h
def Zn0 (Q : Exit → Act → World → Prop) (S : World → Prop) (K : Act → World → Prop) : Exit → Act → World → Prop
 | .normal, a', w' => S w' ∧ K a' w'
 | e, a', w' => Q e a' w'
theorem Zf7 (i : Nat) {L U : List Nat} {o : Oper} {fuel : Nat} {listed : Array Bool} {a : Act} {w : World} (hr : Region.ready .any ops listed = [i]) (hu : U.contains i = false) (ho : ops[i]? = some o)
  (h : wpList P ops (Zn0 Q S (fun a' w' => wpV P ops Q L U S fuel (listed.setIfInBounds i true) a' w')) [o] a w) : wpV P ops Q L U S (fuel + 1) listed a w := by
 refine ⟨fun h0 => (by rw [hr] at h0; cases h0), fun j hj => ?_⟩;rw [hr] at hj;obtain rfl : j = i := by simpa using hj
 unfold wpList at h;unfold wpOp;rw [ho];have hK : ∀ a' w', wpList P ops (Zn0 Q S (fun a' w' => wpV P ops Q L U S fuel (listed.setIfInBounds j true) a' w')) [] a' w' →
   (((Zh3 L U j = false → S w') ∧ (Zjo U j = true → w' = w)) ∧ Zdg P .any ops Q (Zh3 L U) (Zjo U) S fuel (listed.setIfInBounds j true) a' w') := fun a' w' h' =>
  ⟨⟨fun _ => h'.1, fun h0 => (by unfold Zjo at h0; rw [hu] at h0; cases h0)⟩, h'.2⟩
 have hup : o.wp P a w (wpList P ops (Zn0 Q S (fun a' w' => wpV P ops Q L U S fuel (listed.setIfInBounds j true) a' w')) []) (Zn0 Q S (fun a' w' => wpV P ops Q L U S fuel (listed.setIfInBounds j true) a' w')) →
   o.wp P a w (wpList P ops (Zn0 Q S (fun a' w' => wpV P ops Q L U S fuel (listed.setIfInBounds j true) a' w')) []) Q := fun h' => by
  unfold Oper.wp at *
  generalize (execOp a.eval o).run P w = r at *
  cases r with
  | ok n w' => cases n <;> exact h'
  | halt x w' => cases x <;> exact h'
 show if Region.wanted o (yielded ops a.tmps) = true then _ else _
 split
 ·rename_i hw;rw [if_pos hw] at h
  rcases h with h | ⟨h1, h2⟩
  ·exact .inl (Oper.wp_mono hK (hup h))
  ·exact .inr ⟨h1, h2⟩
 ·rename_i hw;rw [if_neg hw] at h;exact hK _ _ h
theorem Zij {L U : List Nat} (os : List Oper) {n : Nat} {listed : Array Bool} {a : Act} {w : World} (hB : Zo8 ops L U listed = true) (hn : L.length = n) (hos : L.map (ops[·]?) = os.map some)
  (h : wpList P ops Q os a w) : wpV P ops Q L U S n listed a w := by
 subst hn;simp only [Zo8, Bool.and_eq_true] at hB;exact Ziv L L os listed a w hB.1 (fun i hi => ⟨by simpa using hi, by simpa using List.all_eq_true.1 hB.2 i hi⟩) hos h
end
end
theorem Ztw : (Tryz.prog.info? Zco).map (fun i => (i.zero, i.size, i.bytes)) = some (some (.int .i64 0), 1, 8) := by kernel_rfl
theorem Zn1 (n : Nat) (IH : ∀ n', n = n' + 1 → Zb7 n') (w : World) (CB : Nat) (G : Nat → Prop) (L : List Ze) (lp : Option Zr) (lv : Value) (LB : Nat) (E : Nat → Prop) (ex : List Nat) (F : Nat → Prop) (c : Zd) (cb co : Nat) (A : Option Addr) (k m : Nat) (HP : Hd (Zbm n w CB G L lp lv LB E ex F c cb co A k m)) (ho : c.kind = 20) (hle : L.length ≤ 60000) :
  Calls Tryz.prog 140 #[.pointer (some ⟨CB, 0, none⟩), .pointer (some ⟨cb, co, none⟩), .int .i64 m, lv] w (Zbk n w CB G L lp lv LB E ex c m) := by
 have HO := zh ho;obtain ⟨L0, iv, ov, hi⟩ := HP.o.ks.im;obtain ⟨rfl, e0⟩ := hi.not_over hle;rw [e0] at hi;obtain ⟨Ai, ci, rfl, -⟩ := id hi.row;have b0 := cz2 hi.blk;have fb0 := fz hi.blk;clear hi e0 L0;have HKS := zh HP.o.ks;have HN3 := zh HP.o.ca.n3;have hmb : m ≤ 1000000 := by have := HP.o.mb; omega
 have tm1 : IntKind.i64.wrap ((m : Int) + 1) = ((m + 1 : Nat) : Int) := by rw [IntWalk.i64_in _ (by omega)]; rfl
 have hkn : 1 ≤ c.kids.length := by have := HP.o.ok.2.1; rw [ho] at this; exact this
 obtain ⟨n', rfl⟩ := HP.o.ca.lev (i := 0) (by omega);obtain ⟨n, rfl⟩ : ∃ z, z = n' := ⟨_, rfl⟩;obtain ⟨kb, ko, B0, q0, rfl, -⟩ := CAt.kid HP.o.ca.kids (i := 0) (by omega);have hkn2 : (1 : Int) ≤ (c.kids.length : Int) := by omega
 have hcnt := Zfw (c := c) hkn;have c0 := HP.o.ca.c0;have c3 := HP.o.ca.c3;have c5 := HP.o.ca.c5;rw [ho] at c0;clear ho;obtain ⟨x, rfl⟩ := Option.isSome_iff_exists.1 (HP.o.ok.2.2.1 (.inl HO.o));obtain ⟨rfl, ⟨bv, exs, ev, hlk⟩, -⟩ := HP.o.ks.lk x rfl;have hxm := HP.o.lm x rfl;have l0 := cz4 hlk.blk;have fl0 := fz hlk.blk;clear hlk;obtain ⟨iI, hiI, hz0, hz1, hz2⟩ := info_parts Ztw;have tm2 : IntKind.i64.wrap ((m : Int) - (x.marks : Int)) = ((m - x.marks : Nat) : Int) := by rw [IntWalk.i64_in _ (by omega)]; omega
 go_enter Tryz.func140, Tryz.ntmps140;go_wp2_with fail;refine (Zgj CB G L (m - x.marks) c.line _ HKS.o.im (by omega) HN3.o).mono ?_;rintro e w1 ⟨rfl, G1, him, hG, ht⟩;have hks := HKS.o.step ht him hG (by simp);clear him hG ht l0 fl0;obtain ⟨L1, hL⟩ : ∃ z, z = L ++ unm (m - x.marks) c.line := ⟨_, rfl⟩;rw [← hL] at hks;have HL1 := zh (show L1 = L ++ (unm (m - x.marks) c.line) by rw [hL]; try simp [Zg]);have hl1 : L1.length = L.length + (m - x.marks) := by rw [hL]; simp [unm]
 have HK1 := zh hks;clear hks hL;obtain ⟨-, ⟨bv1, exs1, ev1, hlk⟩, -⟩ := HK1.o.lk x rfl;have HLB := zh hlk.blk;clear hlk;go_upto_region 6 with (fail);refine Z3 [7] [] (by kernel_rfl) (fun W1 hW1 => ?_);have hlW : Za w1 W1 := by rw [hW1]; exact (Za.refl _).drew
 clear hW1 c0 c3 c5 b0 fb0;have HLBW := zC hlW HLB;have HKW1 := zh (HK1.o.later hlW);clear hlW;refine tU 0 51 (v := ?_) rfl rfl (fun x hx => ?_) ?_;rotate_left
 ·go_simp;first|done|with_reducible rfl
 simp only [Act.put, nA, nB, nC];refine tU 1 52 (v := ?_) rfl rfl (fun x hx => ?_) ?_;rotate_left
 ·go_simp;first|done|with_reducible rfl
 simp only [Act.put, nA, nB, nC];refine tU 2 53 (v := ?_) rfl rfl (fun x hx => ?_) ?_;rotate_left
 ·go_simp;first|done|with_reducible rfl|rw[if_neg (by omega)]|rw[if_pos (by omega)]
 simp only [Act.put, nA, nB, nC];refine tU 3 54 (v := ?_) rfl rfl (fun x hx => ?_) ?_;rotate_left
 ·go_simp;first|done|with_reducible rfl
 simp only [Act.put, nA, nB, nC];refine tU 4 55 (v := ?_) rfl rfl (fun x hx => ?_) ?_;rotate_left
 ·go_simp;first|done|with_reducible rfl
 simp only [Act.put, nA, nB, nC];refine tU 5 56 (v := ?_) rfl rfl (fun x hx => ?_) ?_;rotate_left
 ·go_simp;first|done|with_reducible rfl
 simp only [Act.put, nA, nB, nC];refine tU 6 57 (v := ?_) rfl rfl (fun x hx => ?_) ?_;rotate_left
 ·have hxb := (hx.block _ (Zc HLBW.o)).trans HLBW.o; have l0 := cz4 hxb; have fl0 := fz hxb; go_simp; first|done|with_reducible rfl
 simp only [Act.put, nA, nB, nC];refine Zag [_] (by kernel_rfl) rfl rfl ?_;simp only [List.getElem_toArray, List.getElem_cons_succ, List.getElem_cons_zero];go_wp2_with fail;have hgG : ∀ b, G1 b → G b ∨ w.heap.size ≤ b := HKW1.o.gG;obtain ⟨kb2, ko2, B2, q2, eA, HE2⟩ := HP.o.sub (i := 0) (m1 := x.marks) (lp1 := none) (by omega) HKW1.o.tn.size (HKW1.o.keeps (fun b hb => HP.o.fr b hb)) (HKW1.o.none_ (.pointer none)) hgG (fun h => by simp at h) (by rw [HO.o]; simp [Zm]) (by omega) (fun x hx => by simp at hx) (by have := HP.o.exb; have := Zq c; simp; omega);cases eA;refine (IH _ rfl W1 CB G1 L1 none (.pointer none) 0 (fun _ => False) [] F (c.kid 0) kb (ko + 0 * 6) B2 q2 (x.marks) HE2).mono ?_;rintro e w2 ⟨rfl, G2, E2, hks⟩;rw [hl1] at hks;obtain ⟨r2, hr⟩ : ∃ z, z = cg (n + 1) (c.kid 0) (x.marks) (none) (L.length + (m - x.marks)) := ⟨_, rfl⟩;rw [← hr] at hks;have HR2 := zh hr;have hq2 : r2.2.length ≤ Z0 (c.kid 0) := by rw [hr]; exact Z1 _ _ _ _ _ HE2.o.ok
 replace hks := HKW1.o.back hks (fun h => by simp at h) (by simp);clear hr hgG;obtain ⟨L2, hL⟩ : ∃ z, z = L1 ++ r2.1 := ⟨_, rfl⟩;rw [← hL] at hks;have HL2 := zh (show L2 = L ++ (unm (m - x.marks) c.line ++ (r2.1)) by rw [hL, HL1.o]; try simp [Zg]);have hl2 : L2.length = L.length + (m - x.marks) + r2.1.length := by rw [hL]; simp [hl1]
 have HK2 := zh hks;clear hks hL;obtain ⟨-, ⟨bv2, exs2, ev2, hlk⟩, -⟩ := HK2.o.lk x rfl;obtain ⟨Ae, ce, rfl, hec, hecm, -⟩ := id hlk.row;have HLK2 := zh hlk;have hxle := hlk.len;clear hlk;go_upto_region 7 with (fail);refine Zhe [9, 10, 11, 12] [0] (fun z => z.heap[LB]? = some (.cells #[.bool x.every, .int .i64 x.marks, .int .i64 bv2, .slice Ae exs2.length ce] Zlo (0, 0))) (by kernel_rfl) (fun W2 hW2 => ?_);have hlW : Za w2 W2 := by rw [hW2]; exact (Za.refl _).drew
 clear hW2;have HLKW := zh (HLK2.o.keep (Zb.later hlW));have HSS := zh (HLKW.o.blk);have HKW2 := zh (HK2.o.later hlW);clear hlW;refine Zk3 0 (some 59) (v := ?_) rfl rfl (by kernel_rfl) (fun _ _ _ h => h) rfl (fun x => ?_) ?_;rotate_left
 ·go_simp;first|done|with_reducible rfl
 simp only [Act.put, nA, nB, nC];refine tV 1 60 (v := ?_) rfl rfl HSS.o (fun x hx => ?_) ?_;rotate_left
 ·go_simp;first|done|with_reducible rfl
 simp only [Act.put, nA, nB, nC];refine tV 2 61 (v := ?_) rfl rfl HSS.o (fun x hx => ?_) ?_;rotate_left
 ·go_simp;first|done|with_reducible rfl
 simp only [Act.put, nA, nB, nC];refine tV 3 62 (v := ?_) rfl rfl HSS.o (fun x hx => ?_) ?_;rotate_left
 ·go_simp;first|done|with_reducible rfl
 simp only [Act.put, nA, nB, nC];refine tV 4 63 (v := ?_) rfl rfl HSS.o (fun x hx => ?_) ?_;rotate_left
 ·have l0 := cz4 hx; have fl0 := fz hx; go_simp; first|done|with_reducible rfl
 simp only [Act.put, nA, nB, nC];refine tV 5 64 (v := ?_) rfl rfl HSS.o (fun x hx => ?_) ?_;rotate_left
 ·go_simp;first|done|with_reducible rfl
 simp only [Act.put, nA, nB, nC];refine tV 6 65 (v := ?_) rfl rfl HSS.o (fun x hx => ?_) ?_;rotate_left
 ·go_simp;first|done|with_reducible rfl
 simp only [Act.put, nA, nB, nC];refine Zf7 7 (by kernel_rfl) rfl rfl ?_;go_wp2_with fail;refine (Z2 CB G2 L2 15 0 0 c.line ⟨#[]⟩ _ HKW2.o.im (by unfold Zi; omega) (by unfold Zi; omega) (by unfold Zi; omega) HN3.o (Nat.zero_le _)).mono ?_;rintro e w3 ⟨z3, G3, rfl, zl3, zu3, hz, him, hG, ht⟩;have hks := HKW2.o.step ht him hG (by simp);have HK3 := zh hks;obtain ⟨-, -, hd1, hd2, hd3, hd4, -⟩ := HKW2.o.lk x rfl;have hlk3 := (HLKW.o.keep (ht.keeps fun b hb hp => by
  rcases hb with rfl | hb
  ·rcases hp with hp | hp
   ·exact hd1 hp
   ·exact hd2 hp
  ·rcases hp with rfl | hp
   ·exact hd3 hb
   ·exact hd4 b hb hp))
 have HLK3 := zh (hlk3.less (q' := decide ((L2 ++ [(⟨15, 0, 0, c.line, ⟨#[]⟩⟩ : Ze)]).length ≤ 60000)) (fun e => by simp at e ⊢; omega));have HZ3 := zh (show (L2 ++ [(⟨15, 0, 0, c.line, ⟨#[]⟩⟩ : Ze)]).length ≤ 60000 → z3 = ((L2.length : Nat) : Int) from fun h => hz (by simp at h; omega));clear hlk3 hks hd1 hd2 hd3 hd4 him hG ht hz;go_wp2_with fail;refine ⟨HLK3.o.blk, ?_⟩;refine Zf7 8 (by kernel_rfl) rfl rfl ?_;have hX : Za w3 (w3.alloc (.cells #[.int .i64 z3] Zco)) := (Za.refl _).alloc _;have HX := zh hX;have HROW := zh (HLK3.o.row.keep Zap.is (fun _ h => h) (Zb.later hX));have HEL := zh (show Zc1 (fun _ => False) (w3.alloc (.cells #[.int .i64 z3] Zco)) z3 [.int .i64 z3] from ⟨rfl, by unfold Zi; omega⟩);have HNO : Hd (∀ y, (fun _ : Nat => False) y → ¬ E y) := zh (fun _ h => h.elim);have hex2 : exs2.length ≤ 100000 := by have := HP.o.exb; omega
 have HYB := zh ((hX.block _ (Zc HLK3.o.blk)).trans HLK3.o.blk);clear hX;go_wp2_with fail;refine ⟨HYB.o, ?_⟩;refine Zij [_, _, _, _] (by kernel_rfl) rfl rfl ?_;simp only [List.getElem_toArray, List.getElem_cons_succ, List.getElem_cons_zero]
 go_wp2_with (at_builtin; refine Zbd Zap rfl _ _ 63 rfl Zco iI (.int .i64 0) 8 Tryz.underlying63 hiI hz0 hz1 hz2 rfl rfl HROW.o ⟨w3.heap.size, 0, none⟩ 1 rfl z3 [.int .i64 z3] (Zgi w3 [.int .i64 z3] Zco) (by intro u hu; simp at hu; rcases hu with rfl; rfl) HEL.o HNO.o (by omega) (by decide) ?_; intro v2 Y hrow hkp hb0; obtain ⟨A2, c2, hv2, -⟩ := id hrow; rw [show (exs2 ++ [z3]).length = exs2.length + 1 by simp] at hv2; subst hv2; have hYB := (hkp.same LB HLK3.o.nE (Zc HYB.o)).trans HYB.o; have l0 := cz4 hYB; have fl0 := fz hYB; have HR := zh (HK3.o.broke HLK3.o HZ3.o HX.o hrow hkp hb0))
 go_end0
 have hfin := HR.o.cast (show _ = L ++ (Zk (cg (n + 1)) c m (some x) L.length).1 by rw [Zen HO.o, HL2.o]; simp only [← HR2.o]; simp [Zg]) (show _ = ex ++ (Zk (cg (n + 1)) c m (some x) L.length).2 by rw [Zen HO.o, hl2]; simp only [← HR2.o]);exact ⟨rfl, _, _, hfin⟩
theorem Zrw (n : Nat) (IH : ∀ n', n = n' + 1 → Zb7 n') (w : World) (CB : Nat) (G : Nat → Prop) (L : List Ze) (lp : Option Zr) (lv : Value) (LB : Nat) (E : Nat → Prop) (ex : List Nat) (F : Nat → Prop) (c : Zd) (cb co : Nat) (A : Option Addr) (k m : Nat) (HP : Hd (Zbm n w CB G L lp lv LB E ex F c cb co A k m)) (ho : c.kind = 20) (hle : L.length ≤ 60000) :
  Calls Tryz.prog 82 #[.pointer (some ⟨CB, 0, none⟩), .pointer (some ⟨cb, co, none⟩), .int .i64 m, lv] w (Zbk n w CB G L lp lv LB E ex c m) := by
 have HO := zh ho;obtain ⟨L0, iv, ov, hi⟩ := HP.o.ks.im;obtain ⟨rfl, e0⟩ := hi.not_over hle;rw [e0] at hi;obtain ⟨Ai, ci, rfl, -⟩ := id hi.row;have b0 := cz2 hi.blk;have fb0 := fz hi.blk;clear hi e0 L0;have HKS := zh HP.o.ks;have HN3 := zh HP.o.ca.n3;have hmb : m ≤ 1000000 := by have := HP.o.mb; omega
 have tm1 : IntKind.i64.wrap ((m : Int) + 1) = ((m + 1 : Nat) : Int) := by rw [IntWalk.i64_in _ (by omega)]; rfl
 have c0 := HP.o.ca.c0;have c3 := HP.o.ca.c3;have c5 := HP.o.ca.c5;rw [ho] at c0;clear ho;go_enter Tryz.func82, Tryz.ntmps82;go_wp2_with fail;refine (Zn1 n IH w CB G L lp lv LB E ex F c cb co A k m HP HO.o hle).mono ?_;rintro e w1 ⟨rfl, h⟩;go_wp2_with fail
 go_end0
 exact ⟨rfl, h⟩
theorem Zn2 (n : Nat) (IH : ∀ n', n = n' + 1 → Zb7 n') (w : World) (CB : Nat) (G : Nat → Prop) (L : List Ze) (lp : Option Zr) (lv : Value) (LB : Nat) (E : Nat → Prop) (ex : List Nat) (F : Nat → Prop) (c : Zd) (cb co : Nat) (A : Option Addr) (k m : Nat) (HP : Hd (Zbm n w CB G L lp lv LB E ex F c cb co A k m)) (ho : c.kind = 21) (hle : L.length ≤ 60000) :
  Calls Tryz.prog 140 #[.pointer (some ⟨CB, 0, none⟩), .pointer (some ⟨cb, co, none⟩), .int .i64 m, lv] w (Zbk n w CB G L lp lv LB E ex c m) := by
 have HO := zh ho;obtain ⟨L0, iv, ov, hi⟩ := HP.o.ks.im;obtain ⟨rfl, e0⟩ := hi.not_over hle;rw [e0] at hi;obtain ⟨Ai, ci, rfl, -⟩ := id hi.row;have b0 := cz2 hi.blk;have fb0 := fz hi.blk;clear hi e0 L0;have HKS := zh HP.o.ks;have HN3 := zh HP.o.ca.n3;have hmb : m ≤ 1000000 := by have := HP.o.mb; omega
 have tm1 : IntKind.i64.wrap ((m : Int) + 1) = ((m + 1 : Nat) : Int) := by rw [IntWalk.i64_in _ (by omega)]; rfl
 have c0 := HP.o.ca.c0;have c3 := HP.o.ca.c3;have c5 := HP.o.ca.c5;rw [ho] at c0;clear ho;obtain ⟨x, rfl⟩ := Option.isSome_iff_exists.1 (HP.o.ok.2.2.1 (.inr HO.o));obtain ⟨rfl, ⟨bv, exs, ev, hlk⟩, -⟩ := HP.o.ks.lk x rfl;have hxm := HP.o.lm x rfl;obtain ⟨l0, l1, l2, l3⟩ := cz4 hlk.blk;have fl0 := fz hlk.blk;clear hlk;obtain ⟨en, hen⟩ : ∃ e, x.every = e := ⟨_, rfl⟩;rw [hen] at l0;have HEN := zh hen;clear hen;have tm2 : IntKind.i64.wrap ((m : Int) - (x.marks : Int)) = ((m - x.marks : Nat) : Int) := by rw [IntWalk.i64_in _ (by omega)]; omega
 have tm3 : IntKind.i64.wrap (((m - x.marks : Nat) : Int) - 1) = ((m - x.marks - 1 : Nat) : Int) := by rw [IntWalk.i64_in _ (by omega)]; omega
 cases en with
 | true =>
  go_enter Tryz.func140, Tryz.ntmps140;go_wp2_with fail;refine (Zgj CB G L (m - x.marks - 1) c.line _ HKS.o.im (by omega) HN3.o).mono ?_;rintro e w1 ⟨rfl, G1, him, hG, ht⟩;have HK1 := zh (HKS.o.step ht him hG (by simp));clear him hG ht l0 l1 l2 l3 fl0;go_wp2_with fail;refine (Z2 CB G1 _ 16 0 0 c.line ⟨#[]⟩ _ HK1.o.im (by unfold Zi; omega) (by unfold Zi; omega) (by unfold Zi; omega) HN3.o (Nat.zero_le _)).mono ?_;rintro e w2 ⟨z2, G2, rfl, zl2, zu2, hz, him, hG, ht⟩;have HK2 := zh (HK1.o.step ht him hG (by simp));clear him hG ht hz;go_wp2_with fail
  first | go_end0 | (refine bodyPost_ret (results_none rfl _ _ _) rfl ?_)
  refine ⟨rfl, G2, E, ?_⟩;show KS w w2 CB G G2 (L ++ (Zk (cg n) c m (some x) L.length).1) _ _ LB E E (ex ++ (Zk (cg n) c m (some x) L.length).2);rw [Zdv HO.o];simp only;rw [if_pos HEN.o];exact HK2.o.cast (by simp [Zg]) (by simp)
 | false =>
  go_enter Tryz.func140, Tryz.ntmps140;go_wp2_with fail;refine (Zgj CB G L (m - x.marks) c.line _ HKS.o.im (by omega) HN3.o).mono ?_;rintro e w1 ⟨rfl, G1, him, hG, ht⟩;have HK1 := zh (HKS.o.step ht him hG (by simp));clear him hG ht l0 l1 l2 l3 fl0;obtain ⟨-, ⟨bv2, exs2, ev2, hlk⟩, -⟩ := HK1.o.lk x rfl;obtain ⟨l0, l1, l2, l3⟩ := cz4 hlk.blk;have fl0 := fz hlk.blk;have HLK := zh hlk;clear hlk;go_wp2_with fail;refine (Z2 CB G1 _ 15 bv2 0 c.line ⟨#[]⟩ _ HK1.o.im (by unfold Zi; omega) HLK.o.bv64 (by unfold Zi; omega) HN3.o (Nat.zero_le _)).mono ?_;rintro e w2 ⟨z2, G2, rfl, zl2, zu2, hz, him, hG, ht⟩;have HK2 := zh ((HK1.o.step ht him hG (by simp)).relabel (y := (x.begin_ : Int)) (fun h => HLK.o.beg (nT (by omega))));clear him hG ht hz;go_wp2_with fail
  first | go_end0 | (refine bodyPost_ret (results_none rfl _ _ _) rfl ?_)
  refine ⟨rfl, G2, E, ?_⟩;show KS w w2 CB G G2 (L ++ (Zk (cg n) c m (some x) L.length).1) _ _ LB E E (ex ++ (Zk (cg n) c m (some x) L.length).2);rw [Zdv HO.o];simp only;rw [if_neg (by rw [HEN.o]; decide)];exact HK2.o.cast (by simp [Zg]) (by simp)
theorem Zrx (n : Nat) (IH : ∀ n', n = n' + 1 → Zb7 n') (w : World) (CB : Nat) (G : Nat → Prop) (L : List Ze) (lp : Option Zr) (lv : Value) (LB : Nat) (E : Nat → Prop) (ex : List Nat) (F : Nat → Prop) (c : Zd) (cb co : Nat) (A : Option Addr) (k m : Nat) (HP : Hd (Zbm n w CB G L lp lv LB E ex F c cb co A k m)) (ho : c.kind = 21) (hle : L.length ≤ 60000) :
  Calls Tryz.prog 82 #[.pointer (some ⟨CB, 0, none⟩), .pointer (some ⟨cb, co, none⟩), .int .i64 m, lv] w (Zbk n w CB G L lp lv LB E ex c m) := by
 have HO := zh ho;obtain ⟨L0, iv, ov, hi⟩ := HP.o.ks.im;obtain ⟨rfl, e0⟩ := hi.not_over hle;rw [e0] at hi;obtain ⟨Ai, ci, rfl, -⟩ := id hi.row;have b0 := cz2 hi.blk;have fb0 := fz hi.blk;clear hi e0 L0;have HKS := zh HP.o.ks;have HN3 := zh HP.o.ca.n3;have hmb : m ≤ 1000000 := by have := HP.o.mb; omega
 have tm1 : IntKind.i64.wrap ((m : Int) + 1) = ((m + 1 : Nat) : Int) := by rw [IntWalk.i64_in _ (by omega)]; rfl
 have c0 := HP.o.ca.c0;have c3 := HP.o.ca.c3;have c5 := HP.o.ca.c5;rw [ho] at c0;clear ho;go_enter Tryz.func82, Tryz.ntmps82;go_wp2_with fail;refine (Zn2 n IH w CB G L lp lv LB E ex F c cb co A k m HP HO.o hle).mono ?_;rintro e w1 ⟨rfl, h⟩;go_wp2_with fail
 go_end0
 exact ⟨rfl, h⟩
theorem Zn3 (n : Nat) (IH : ∀ n', n = n' + 1 → Zb7 n') (w : World) (CB : Nat) (G : Nat → Prop) (L : List Ze) (lp : Option Zr) (lv : Value) (LB : Nat) (E : Nat → Prop) (ex : List Nat) (F : Nat → Prop) (c : Zd) (cb co : Nat) (A : Option Addr) (k m : Nat) (HP : Hd (Zbm n w CB G L lp lv LB E ex F c cb co A k m)) (ho : c.kind = 22) (hle : L.length ≤ 60000) :
  Calls Tryz.prog 140 #[.pointer (some ⟨CB, 0, none⟩), .pointer (some ⟨cb, co, none⟩), .int .i64 m, lv] w (Zbk n w CB G L lp lv LB E ex c m) := by
 have HO := zh ho;obtain ⟨L0, iv, ov, hi⟩ := HP.o.ks.im;obtain ⟨rfl, e0⟩ := hi.not_over hle;rw [e0] at hi;obtain ⟨Ai, ci, rfl, -⟩ := id hi.row;have b0 := cz2 hi.blk;have fb0 := fz hi.blk;clear hi e0 L0;have HKS := zh HP.o.ks;have HN3 := zh HP.o.ca.n3;have hmb : m ≤ 1000000 := by have := HP.o.mb; omega
 have tm1 : IntKind.i64.wrap ((m : Int) + 1) = ((m + 1 : Nat) : Int) := by rw [IntWalk.i64_in _ (by omega)]; rfl
 have hkn : 2 ≤ c.kids.length := by have := HP.o.ok.2.1; rw [ho] at this; exact this
 obtain ⟨n', rfl⟩ := HP.o.ca.lev (i := 0) (by omega);obtain ⟨n, rfl⟩ : ∃ z, z = n' := ⟨_, rfl⟩;obtain ⟨kb, ko, B0, q0, rfl, -⟩ := CAt.kid HP.o.ca.kids (i := 0) (by omega);have hkn2 : (2 : Int) ≤ (c.kids.length : Int) := by omega
 have hcnt := Ze3 (c := c) hkn;have c0 := HP.o.ca.c0;have c3 := HP.o.ca.c3;have c5 := HP.o.ca.c5;rw [ho] at c0;clear ho;go_enter Tryz.func140, Tryz.ntmps140;go_wp2_with fail;have hgG : ∀ b, G b → G b ∨ w.heap.size ≤ b := HKS.o.gG;have hE : lp.isSome = true → ∀ b, F b → b ≠ LB ∧ ¬ E b := fun hp b hb => ⟨((HP.o.fr b hb).2.2 hp).1, fun he => by
  obtain ⟨x, hx⟩ := Option.isSome_iff_exists.1 hp
  rcases (HKS.o.lk x hx).2.2.2.2.2.2 b he with h1 | h1
  ·exact ((HP.o.fr b hb).2.2 hp).2 h1
  ·have := HP.o.flt b hb; omega⟩
 obtain ⟨kb1, ko1, B1, q1, eA, HE1⟩ := HP.o.sub (i := 0) (m1 := m) (lp1 := lp) (by omega) HKS.o.tn.size (HKS.o.keeps (fun b hb => HP.o.fr b hb)) HKS.o.here hgG hE (by rw [HO.o]; simp [Zm]) (by omega) (fun x hx => Nat.le_trans (HP.o.lm x hx) (by omega)) (by have := HP.o.exb; have := Zq c; omega);cases eA;refine (IH _ rfl w CB G L lp lv LB E ex F (c.kid 0) kb (ko + 0 * 6) B1 q1 (m) HE1).mono ?_;rintro e w1 ⟨rfl, G1, E1, hks⟩;obtain ⟨r1, hr⟩ : ∃ z, z = cg (n + 1) (c.kid 0) (m) (lp) (L.length) := ⟨_, rfl⟩;rw [← hr] at hks;have HR1 := zh hr;have hq1 : r1.2.length ≤ Z0 (c.kid 0) := by rw [hr]; exact Z1 _ _ _ _ _ HE1.o.ok
 replace hks := HKS.o.trans hks;clear hr hgG hE;obtain ⟨x1, hx⟩ : ∃ z, z = ex ++ r1.2 := ⟨_, rfl⟩;rw [← hx] at hks;have HX1 := zh (show x1 = ex ++ (r1.2) by rw [hx]; try simp);have hxl1 : x1.length = ex.length + r1.2.length := by rw [hx]; simp
 clear hx;obtain ⟨L1, hL⟩ : ∃ z, z = L ++ r1.1 := ⟨_, rfl⟩;rw [← hL] at hks;have HL1 := zh (show L1 = L ++ (r1.1) by rw [hL]; try simp [Zg]);have hl1 : L1.length = L.length + r1.1.length := by rw [hL]; simp
 have HK1 := zh hks;clear hks hL;go_wp2_with fail;refine (Z2 CB G1 L1 22 0 0 c.line ⟨#[]⟩ _ HK1.o.im (by unfold Zi; omega) (by unfold Zi; omega) (by unfold Zi; omega) HN3.o (Nat.zero_le _)).mono ?_;rintro e w2 ⟨z2, G2, rfl, zl2, zu2, hz, him, hG, ht⟩;have HZ2 := zh (show L.length + r1.1.length < 60000 → z2 = ((L.length + r1.1.length : Nat) : Int) from fun h => by have := hz (by have := hl1; omega); have := hl1; omega);have hks := HK1.o.step ht him hG (by simp);clear him hG ht hz;obtain ⟨L2, hL⟩ : ∃ z, z = L1 ++ [(⟨22, 0, 0, c.line, ⟨#[]⟩⟩ : Ze)] := ⟨_, rfl⟩;rw [← hL] at hks;have HL2 := zh (show L2 = L ++ (r1.1 ++ ([Zg 22 0 c.line])) by rw [hL, HL1.o]; try simp [Zg]);have hl2 : L2.length = L.length + r1.1.length + 1 := by rw [hL]; simp [hl1]
 have HK2 := zh hks;clear hks hL;go_wp2_with fail;have hgG : ∀ b, G2 b → G b ∨ w.heap.size ≤ b := HK2.o.gG;have hE : lp.isSome = true → ∀ b, F b → b ≠ LB ∧ ¬ E1 b := fun hp b hb => ⟨((HP.o.fr b hb).2.2 hp).1, fun he => by
  obtain ⟨x, hx⟩ := Option.isSome_iff_exists.1 hp
  rcases (HK2.o.lk x hx).2.2.2.2.2.2 b he with h1 | h1
  ·exact ((HP.o.fr b hb).2.2 hp).2 h1
  ·have := HP.o.flt b hb; omega⟩
 obtain ⟨kb3, ko3, B3, q3, eA, HE3⟩ := HP.o.sub (i := 1) (m1 := m) (lp1 := lp) (by omega) HK2.o.tn.size (HK2.o.keeps (fun b hb => HP.o.fr b hb)) HK2.o.here hgG hE (by rw [HO.o]; simp [Zm]) (by omega) (fun x hx => Nat.le_trans (HP.o.lm x hx) (by omega)) (by have := HP.o.exb; have := Zq c; have := hxl1; omega);cases eA;refine (IH _ rfl w2 CB G2 L2 lp lv LB E1 x1 F (c.kid 1) kb (ko + 1 * 6) B3 q3 (m) HE3).mono ?_;rintro e w3 ⟨rfl, G3, E3, hks⟩;rw [hl2] at hks;obtain ⟨r3, hr⟩ : ∃ z, z = cg (n + 1) (c.kid 1) (m) (lp) (L.length + r1.1.length + 1) := ⟨_, rfl⟩;rw [← hr] at hks;have HR3 := zh hr;have hq3 : r3.2.length ≤ Z0 (c.kid 1) := by rw [hr]; exact Z1 _ _ _ _ _ HE3.o.ok
 replace hks := HK2.o.trans hks;clear hr hgG hE;obtain ⟨x3, hx⟩ : ∃ z, z = x1 ++ r3.2 := ⟨_, rfl⟩;rw [← hx] at hks;have HX3 := zh (show x3 = ex ++ (r1.2 ++ (r3.2)) by rw [hx, HX1.o]; try simp);have hxl3 : x3.length = x1.length + r3.2.length := by rw [hx]; simp
 clear hx;obtain ⟨L3, hL⟩ : ∃ z, z = L2 ++ r3.1 := ⟨_, rfl⟩;rw [← hL] at hks;have HL3 := zh (show L3 = L ++ (r1.1 ++ ([Zg 22 0 c.line] ++ (r3.1))) by rw [hL, HL2.o]; try simp [Zg]);have hl3 : L3.length = L.length + r1.1.length + 1 + r3.1.length := by rw [hL]; simp [hl2]
 have HK3 := zh hks;clear hks hL;go_wp2_with fail;refine (Z2 CB G3 L3 23 0 0 c.line ⟨#[]⟩ _ HK3.o.im (by unfold Zi; omega) (by unfold Zi; omega) (by unfold Zi; omega) HN3.o (Nat.zero_le _)).mono ?_;rintro e w4 ⟨z4, G4, rfl, zl4, zu4, hz, him, hG, ht⟩;have HZ4 := zh (show L.length + r1.1.length + 1 + r3.1.length < 60000 → z4 = ((L.length + r1.1.length + 1 + r3.1.length : Nat) : Int) from fun h => by have := hz (by have := hl3; omega); have := hl3; omega);have hks := HK3.o.step ht him hG (by simp);clear him hG ht hz;obtain ⟨L4, hL⟩ : ∃ z, z = L3 ++ [(⟨23, 0, 0, c.line, ⟨#[]⟩⟩ : Ze)] := ⟨_, rfl⟩;rw [← hL] at hks;have HL4 := zh (show L4 = L ++ (r1.1 ++ ([Zg 22 0 c.line] ++ (r3.1 ++ ([Zg 23 0 c.line])))) by rw [hL, HL3.o]; try simp [Zg]);have hl4 : L4.length = L.length + r1.1.length + 1 + r3.1.length + 1 := by rw [hL]; simp [hl3]
 have HK4 := zh hks;clear hks hL;go_wp2_with fail
 go_end0
 refine ⟨rfl, G4, E3, ?_⟩;show KS w w4 CB G G4 (L ++ (Zk (cg (n + 1)) c m lp L.length).1) lp lv LB E E3 (ex ++ (Zk (cg (n + 1)) c m lp L.length).2);rw [Zfq HO.o];simp only [← HR1.o, ← HR3.o];refine HK4.o.cast ?_ ?_
 ·rw [HL4.o]; try simp
 ·rw [HX3.o]; try simp
theorem Zry (n : Nat) (IH : ∀ n', n = n' + 1 → Zb7 n') (w : World) (CB : Nat) (G : Nat → Prop) (L : List Ze) (lp : Option Zr) (lv : Value) (LB : Nat) (E : Nat → Prop) (ex : List Nat) (F : Nat → Prop) (c : Zd) (cb co : Nat) (A : Option Addr) (k m : Nat) (HP : Hd (Zbm n w CB G L lp lv LB E ex F c cb co A k m)) (ho : c.kind = 22) (hle : L.length ≤ 60000) :
  Calls Tryz.prog 82 #[.pointer (some ⟨CB, 0, none⟩), .pointer (some ⟨cb, co, none⟩), .int .i64 m, lv] w (Zbk n w CB G L lp lv LB E ex c m) := by
 have HO := zh ho;obtain ⟨L0, iv, ov, hi⟩ := HP.o.ks.im;obtain ⟨rfl, e0⟩ := hi.not_over hle;rw [e0] at hi;obtain ⟨Ai, ci, rfl, -⟩ := id hi.row;have b0 := cz2 hi.blk;have fb0 := fz hi.blk;clear hi e0 L0;have HKS := zh HP.o.ks;have HN3 := zh HP.o.ca.n3;have hmb : m ≤ 1000000 := by have := HP.o.mb; omega
 have tm1 : IntKind.i64.wrap ((m : Int) + 1) = ((m + 1 : Nat) : Int) := by rw [IntWalk.i64_in _ (by omega)]; rfl
 have c0 := HP.o.ca.c0;have c3 := HP.o.ca.c3;have c5 := HP.o.ca.c5;rw [ho] at c0;clear ho;go_enter Tryz.func82, Tryz.ntmps82;go_wp2_with fail;refine (Zn3 n IH w CB G L lp lv LB E ex F c cb co A k m HP HO.o hle).mono ?_;rintro e w1 ⟨rfl, h⟩;go_wp2_with fail
 go_end0
 exact ⟨rfl, h⟩
theorem Zn4 (n : Nat) (IH : ∀ n', n = n' + 1 → Zb7 n') (w : World) (CB : Nat) (G : Nat → Prop) (L : List Ze) (lp : Option Zr) (lv : Value) (LB : Nat) (E : Nat → Prop) (ex : List Nat) (F : Nat → Prop) (c : Zd) (cb co : Nat) (A : Option Addr) (k m : Nat) (HP : Hd (Zbm n w CB G L lp lv LB E ex F c cb co A k m)) (ho : c.kind = 23) (hle : L.length ≤ 60000) :
  Calls Tryz.prog 140 #[.pointer (some ⟨CB, 0, none⟩), .pointer (some ⟨cb, co, none⟩), .int .i64 m, lv] w (Zbk n w CB G L lp lv LB E ex c m) := by
 have HO := zh ho;obtain ⟨L0, iv, ov, hi⟩ := HP.o.ks.im;obtain ⟨rfl, e0⟩ := hi.not_over hle;rw [e0] at hi;obtain ⟨Ai, ci, rfl, -⟩ := id hi.row;have b0 := cz2 hi.blk;have fb0 := fz hi.blk;clear hi e0 L0;have HKS := zh HP.o.ks;have HN3 := zh HP.o.ca.n3;have hmb : m ≤ 1000000 := by have := HP.o.mb; omega
 have tm1 : IntKind.i64.wrap ((m : Int) + 1) = ((m + 1 : Nat) : Int) := by rw [IntWalk.i64_in _ (by omega)]; rfl
 have hkn : 1 ≤ c.kids.length := by have := HP.o.ok.2.1; rw [ho] at this; exact this
 obtain ⟨n', rfl⟩ := HP.o.ca.lev (i := 0) (by omega);obtain ⟨n, rfl⟩ : ∃ z, z = n' := ⟨_, rfl⟩;obtain ⟨kb, ko, B0, q0, rfl, -⟩ := CAt.kid HP.o.ca.kids (i := 0) (by omega);have hkn2 : (1 : Int) ≤ (c.kids.length : Int) := by omega
 have hcnt := Zfw (c := c) hkn;have c0 := HP.o.ca.c0;have c3 := HP.o.ca.c3;have c5 := HP.o.ca.c5;rw [ho] at c0;clear ho;go_enter Tryz.func140, Tryz.ntmps140;go_wp2_with fail;refine (Z2 CB G L 13 0 0 c.line ⟨#[]⟩ _ HKS.o.im (by unfold Zi; omega) (by unfold Zi; omega) (by unfold Zi; omega) HN3.o (Nat.zero_le _)).mono ?_;rintro e w1 ⟨z1, G1, rfl, zl1, zu1, hz, him, hG, ht⟩;have HZ1 := zh (show L.length < 60000 → z1 = ((L.length : Nat) : Int) from fun h => by have := hz (by omega); omega);have hks := HKS.o.step ht him hG (by simp);clear him hG ht hz;obtain ⟨L1, hL⟩ : ∃ z, z = L ++ [(⟨13, 0, 0, c.line, ⟨#[]⟩⟩ : Ze)] := ⟨_, rfl⟩;rw [← hL] at hks;have HL1 := zh (show L1 = L ++ ([Zg 13 0 c.line]) by rw [hL]; try simp [Zg]);have hl1 : L1.length = L.length + 1 := by rw [hL]; simp
 have HK1 := zh hks;clear hks hL;go_wp2_with fail;have hgG : ∀ b, G1 b → G b ∨ w.heap.size ≤ b := HK1.o.gG;have hE : lp.isSome = true → ∀ b, F b → b ≠ LB ∧ ¬ E b := fun hp b hb => ⟨((HP.o.fr b hb).2.2 hp).1, fun he => by
  obtain ⟨x, hx⟩ := Option.isSome_iff_exists.1 hp
  rcases (HK1.o.lk x hx).2.2.2.2.2.2 b he with h1 | h1
  ·exact ((HP.o.fr b hb).2.2 hp).2 h1
  ·have := HP.o.flt b hb; omega⟩
 obtain ⟨kb2, ko2, B2, q2, eA, HE2⟩ := HP.o.sub (i := 0) (m1 := m + 1) (lp1 := lp) (by omega) HK1.o.tn.size (HK1.o.keeps (fun b hb => HP.o.fr b hb)) HK1.o.here hgG hE (by rw [HO.o]; simp [Zm]) (by omega) (fun x hx => Nat.le_trans (HP.o.lm x hx) (by omega)) (by have := HP.o.exb; have := Zq c; omega);cases eA;refine (IH _ rfl w1 CB G1 L1 lp lv LB E ex F (c.kid 0) kb (ko + 0 * 6) B2 q2 (m + 1) HE2).mono ?_;rintro e w2 ⟨rfl, G2, E2, hks⟩;rw [hl1] at hks;obtain ⟨r2, hr⟩ : ∃ z, z = cg (n + 1) (c.kid 0) (m + 1) (lp) (L.length + 1) := ⟨_, rfl⟩;rw [← hr] at hks;have HR2 := zh hr;have hq2 : r2.2.length ≤ Z0 (c.kid 0) := by rw [hr]; exact Z1 _ _ _ _ _ HE2.o.ok
 replace hks := HK1.o.trans hks;clear hr hgG hE;obtain ⟨x2, hx⟩ : ∃ z, z = ex ++ r2.2 := ⟨_, rfl⟩;rw [← hx] at hks;have HX2 := zh (show x2 = ex ++ (r2.2) by rw [hx]; try simp);have hxl2 : x2.length = ex.length + r2.2.length := by rw [hx]; simp
 clear hx;obtain ⟨L2, hL⟩ : ∃ z, z = L1 ++ r2.1 := ⟨_, rfl⟩;rw [← hL] at hks;have HL2 := zh (show L2 = L ++ ([Zg 13 0 c.line] ++ (r2.1)) by rw [hL, HL1.o]; try simp [Zg]);have hl2 : L2.length = L.length + 1 + r2.1.length := by rw [hL]; simp [hl1]
 have HK2 := zh hks;clear hks hL;go_wp2_with fail;refine (Z2 CB G2 L2 24 0 0 c.line ⟨#[]⟩ _ HK2.o.im (by unfold Zi; omega) (by unfold Zi; omega) (by unfold Zi; omega) HN3.o (Nat.zero_le _)).mono ?_;rintro e w3 ⟨z3, G3, rfl, zl3, zu3, hz, him, hG, ht⟩;have HZ3 := zh (show L.length + 1 + r2.1.length < 60000 → z3 = ((L.length + 1 + r2.1.length : Nat) : Int) from fun h => by have := hz (by have := hl2; omega); have := hl2; omega);have hks := HK2.o.step ht him hG (by simp);clear him hG ht hz;obtain ⟨L3, hL⟩ : ∃ z, z = L2 ++ [(⟨24, 0, 0, c.line, ⟨#[]⟩⟩ : Ze)] := ⟨_, rfl⟩;rw [← hL] at hks;have HL3 := zh (show L3 = L ++ ([Zg 13 0 c.line] ++ (r2.1 ++ ([Zg 24 0 c.line]))) by rw [hL, HL2.o]; try simp [Zg]);have hl3 : L3.length = L.length + 1 + r2.1.length + 1 := by rw [hL]; simp [hl2]
 have HK3 := zh hks;clear hks hL;go_wp2_with fail;refine (Zbp CB G3 L3 (L.length) z1 _ HK3.o.im (fun h => ⟨by have := HZ1.o (by omega); omega, by omega⟩)).mono ?_;rintro e w4 ⟨rfl, him, ht⟩;have hks := HK3.o.step ht him (fun _ h => .inl h) (by rw [Zp]; exact Nat.le_refl _);clear him ht;have hpt := Zav (LL := L3) (A := L) (B := r2.1 ++ ([Zg 24 0 c.line])) (op := 13) (a0 := 0) (l := c.line) (i := L.length) (k := L.length + 1 + r2.1.length + 1) (by rw [HL3.o]; simp) (by simp; try omega) hl3;rw [hpt] at hks;obtain ⟨L4, hL⟩ : ∃ z, z = L ++ Zg 13 ((L.length + 1 + r2.1.length + 1 : Nat) : Int) c.line :: (r2.1 ++ ([Zg 24 0 c.line])) := ⟨_, rfl⟩;rw [← hL] at hks;have HL4 := zh (show L4 = L ++ ([Zg 13 ((L.length + 1 + r2.1.length + 1 : Nat) : Int) c.line] ++ (r2.1 ++ ([Zg 24 0 c.line]))) by rw [hL]; simp);have hl4 : L4.length = L.length + 1 + r2.1.length + 1 := by rw [hL, ← hpt, Zp, hl3]
 have HK4 := zh hks;clear hks hL hpt;go_wp2_with fail;refine (Z2 CB G3 L4 25 0 0 c.line ⟨#[]⟩ _ HK4.o.im (by unfold Zi; omega) (by unfold Zi; omega) (by unfold Zi; omega) HN3.o (Nat.zero_le _)).mono ?_;rintro e w5 ⟨z5, G5, rfl, zl5, zu5, hz, him, hG, ht⟩;have HZ5 := zh (show L.length + 1 + r2.1.length + 1 < 60000 → z5 = ((L.length + 1 + r2.1.length + 1 : Nat) : Int) from fun h => by have := hz (by have := hl4; omega); have := hl4; omega);have hks := HK4.o.step ht him hG (by simp);clear him hG ht hz;obtain ⟨L5, hL⟩ : ∃ z, z = L4 ++ [(⟨25, 0, 0, c.line, ⟨#[]⟩⟩ : Ze)] := ⟨_, rfl⟩;rw [← hL] at hks;have HL5 := zh (show L5 = L ++ ([Zg 13 ((L.length + 1 + r2.1.length + 1 : Nat) : Int) c.line] ++ (r2.1 ++ ([Zg 24 0 c.line] ++ ([Zg 25 0 c.line])))) by rw [hL, HL4.o]; try simp [Zg]);have hl5 : L5.length = L.length + 1 + r2.1.length + 1 + 1 := by rw [hL]; simp [hl4]
 have HK5 := zh hks;clear hks hL;go_wp2_with fail
 go_end0
 refine ⟨rfl, G5, E2, ?_⟩;show KS w w5 CB G G5 (L ++ (Zk (cg (n + 1)) c m lp L.length).1) lp lv LB E E2 (ex ++ (Zk (cg (n + 1)) c m lp L.length).2);rw [Zfr HO.o];simp only [← HR2.o];refine HK5.o.cast ?_ ?_
 ·rw [HL5.o]; try simp
 ·rw [HX2.o]; try simp
theorem Zrz (n : Nat) (IH : ∀ n', n = n' + 1 → Zb7 n') (w : World) (CB : Nat) (G : Nat → Prop) (L : List Ze) (lp : Option Zr) (lv : Value) (LB : Nat) (E : Nat → Prop) (ex : List Nat) (F : Nat → Prop) (c : Zd) (cb co : Nat) (A : Option Addr) (k m : Nat) (HP : Hd (Zbm n w CB G L lp lv LB E ex F c cb co A k m)) (ho : c.kind = 23) (hle : L.length ≤ 60000) :
  Calls Tryz.prog 82 #[.pointer (some ⟨CB, 0, none⟩), .pointer (some ⟨cb, co, none⟩), .int .i64 m, lv] w (Zbk n w CB G L lp lv LB E ex c m) := by
 have HO := zh ho;obtain ⟨L0, iv, ov, hi⟩ := HP.o.ks.im;obtain ⟨rfl, e0⟩ := hi.not_over hle;rw [e0] at hi;obtain ⟨Ai, ci, rfl, -⟩ := id hi.row;have b0 := cz2 hi.blk;have fb0 := fz hi.blk;clear hi e0 L0;have HKS := zh HP.o.ks;have HN3 := zh HP.o.ca.n3;have hmb : m ≤ 1000000 := by have := HP.o.mb; omega
 have tm1 : IntKind.i64.wrap ((m : Int) + 1) = ((m + 1 : Nat) : Int) := by rw [IntWalk.i64_in _ (by omega)]; rfl
 have c0 := HP.o.ca.c0;have c3 := HP.o.ca.c3;have c5 := HP.o.ca.c5;rw [ho] at c0;clear ho;go_enter Tryz.func82, Tryz.ntmps82;go_wp2_with fail;refine (Zn4 n IH w CB G L lp lv LB E ex F c cb co A k m HP HO.o hle).mono ?_;rintro e w1 ⟨rfl, h⟩;go_wp2_with fail
 go_end0
 exact ⟨rfl, h⟩
theorem Zn5 (n : Nat) (IH : ∀ n', n = n' + 1 → Zb7 n') (w : World) (CB : Nat) (G : Nat → Prop) (L : List Ze) (lp : Option Zr) (lv : Value) (LB : Nat) (E : Nat → Prop) (ex : List Nat) (F : Nat → Prop) (c : Zd) (cb co : Nat) (A : Option Addr) (k m : Nat) (HP : Hd (Zbm n w CB G L lp lv LB E ex F c cb co A k m)) (ho : c.kind = 24) (hle : L.length ≤ 60000) :
  Calls Tryz.prog 140 #[.pointer (some ⟨CB, 0, none⟩), .pointer (some ⟨cb, co, none⟩), .int .i64 m, lv] w (Zbk n w CB G L lp lv LB E ex c m) := by
 have HO := zh ho;obtain ⟨L0, iv, ov, hi⟩ := HP.o.ks.im;obtain ⟨rfl, e0⟩ := hi.not_over hle;rw [e0] at hi;obtain ⟨Ai, ci, rfl, -⟩ := id hi.row;have b0 := cz2 hi.blk;have fb0 := fz hi.blk;clear hi e0 L0;have HKS := zh HP.o.ks;have HN3 := zh HP.o.ca.n3;have hmb : m ≤ 1000000 := by have := HP.o.mb; omega
 have tm1 : IntKind.i64.wrap ((m : Int) + 1) = ((m + 1 : Nat) : Int) := by rw [IntWalk.i64_in _ (by omega)]; rfl
 have c0 := HP.o.ca.c0;have c3 := HP.o.ca.c3;have c5 := HP.o.ca.c5;rw [ho] at c0;clear ho;go_enter Tryz.func140, Tryz.ntmps140;go_wp2_with fail;refine (Z2 CB G L 25 0 0 c.line ⟨#[]⟩ _ HKS.o.im (by unfold Zi; omega) (by unfold Zi; omega) (by unfold Zi; omega) HN3.o (Nat.zero_le _)).mono ?_;rintro e w1 ⟨z1, G1, rfl, zl1, zu1, hz, him, hG, ht⟩;have HZ1 := zh (show L.length < 60000 → z1 = ((L.length : Nat) : Int) from fun h => by have := hz (by omega); omega);have hks := HKS.o.step ht him hG (by simp);clear him hG ht hz;obtain ⟨L1, hL⟩ : ∃ z, z = L ++ [(⟨25, 0, 0, c.line, ⟨#[]⟩⟩ : Ze)] := ⟨_, rfl⟩;rw [← hL] at hks;have HL1 := zh (show L1 = L ++ ([Zg 25 0 c.line]) by rw [hL]; try simp [Zg]);have hl1 : L1.length = L.length + 1 := by rw [hL]; simp
 have HK1 := zh hks;clear hks hL;go_wp2_with fail
 go_end0
 refine ⟨rfl, G1, E, ?_⟩;show KS w w1 CB G G1 (L ++ (Zk (cg n) c m lp L.length).1) lp lv LB E E (ex ++ (Zk (cg n) c m lp L.length).2);rw [Zfs HO.o];refine HK1.o.cast ?_ ?_
 ·rw [HL1.o]; try simp
 ·simp
theorem Zr0 (n : Nat) (IH : ∀ n', n = n' + 1 → Zb7 n') (w : World) (CB : Nat) (G : Nat → Prop) (L : List Ze) (lp : Option Zr) (lv : Value) (LB : Nat) (E : Nat → Prop) (ex : List Nat) (F : Nat → Prop) (c : Zd) (cb co : Nat) (A : Option Addr) (k m : Nat) (HP : Hd (Zbm n w CB G L lp lv LB E ex F c cb co A k m)) (ho : c.kind = 24) (hle : L.length ≤ 60000) :
  Calls Tryz.prog 82 #[.pointer (some ⟨CB, 0, none⟩), .pointer (some ⟨cb, co, none⟩), .int .i64 m, lv] w (Zbk n w CB G L lp lv LB E ex c m) := by
 have HO := zh ho;obtain ⟨L0, iv, ov, hi⟩ := HP.o.ks.im;obtain ⟨rfl, e0⟩ := hi.not_over hle;rw [e0] at hi;obtain ⟨Ai, ci, rfl, -⟩ := id hi.row;have b0 := cz2 hi.blk;have fb0 := fz hi.blk;clear hi e0 L0;have HKS := zh HP.o.ks;have HN3 := zh HP.o.ca.n3;have hmb : m ≤ 1000000 := by have := HP.o.mb; omega
 have tm1 : IntKind.i64.wrap ((m : Int) + 1) = ((m + 1 : Nat) : Int) := by rw [IntWalk.i64_in _ (by omega)]; rfl
 have c0 := HP.o.ca.c0;have c3 := HP.o.ca.c3;have c5 := HP.o.ca.c5;rw [ho] at c0;clear ho;go_enter Tryz.func82, Tryz.ntmps82;go_wp2_with fail;refine (Zn5 n IH w CB G L lp lv LB E ex F c cb co A k m HP HO.o hle).mono ?_;rintro e w1 ⟨rfl, h⟩;go_wp2_with fail
 go_end0
 exact ⟨rfl, h⟩
theorem Zn6 (n : Nat) (IH : ∀ n', n = n' + 1 → Zb7 n') (w : World) (CB : Nat) (G : Nat → Prop) (L : List Ze) (lp : Option Zr) (lv : Value) (LB : Nat) (E : Nat → Prop) (ex : List Nat) (F : Nat → Prop) (c : Zd) (cb co : Nat) (A : Option Addr) (k m : Nat) (HP : Hd (Zbm n w CB G L lp lv LB E ex F c cb co A k m)) (ho : c.kind = 27) (hle : L.length ≤ 60000) :
  Calls Tryz.prog 140 #[.pointer (some ⟨CB, 0, none⟩), .pointer (some ⟨cb, co, none⟩), .int .i64 m, lv] w (Zbk n w CB G L lp lv LB E ex c m) := by
 have HO := zh ho;obtain ⟨L0, iv, ov, hi⟩ := HP.o.ks.im;obtain ⟨rfl, e0⟩ := hi.not_over hle;rw [e0] at hi;obtain ⟨Ai, ci, rfl, -⟩ := id hi.row;have b0 := cz2 hi.blk;have fb0 := fz hi.blk;clear hi e0 L0;have HKS := zh HP.o.ks;have HN3 := zh HP.o.ca.n3;have hmb : m ≤ 1000000 := by have := HP.o.mb; omega
 have tm1 : IntKind.i64.wrap ((m : Int) + 1) = ((m + 1 : Nat) : Int) := by rw [IntWalk.i64_in _ (by omega)]; rfl
 have hkn : 1 ≤ c.kids.length := by have := HP.o.ok.2.1; rw [ho] at this; exact this
 obtain ⟨n', rfl⟩ := HP.o.ca.lev (i := 0) (by omega);obtain ⟨n, rfl⟩ : ∃ z, z = n' := ⟨_, rfl⟩;obtain ⟨kb, ko, B0, q0, rfl, -⟩ := CAt.kid HP.o.ca.kids (i := 0) (by omega);have hkn2 : (1 : Int) ≤ (c.kids.length : Int) := by omega
 have hcnt := Zfw (c := c) hkn;have c0 := HP.o.ca.c0;have c3 := HP.o.ca.c3;have c5 := HP.o.ca.c5;rw [ho] at c0;clear ho;go_enter Tryz.func140, Tryz.ntmps140;go_wp2_with fail;have hgG : ∀ b, G b → G b ∨ w.heap.size ≤ b := HKS.o.gG;have hE : lp.isSome = true → ∀ b, F b → b ≠ LB ∧ ¬ E b := fun hp b hb => ⟨((HP.o.fr b hb).2.2 hp).1, fun he => by
  obtain ⟨x, hx⟩ := Option.isSome_iff_exists.1 hp
  rcases (HKS.o.lk x hx).2.2.2.2.2.2 b he with h1 | h1
  ·exact ((HP.o.fr b hb).2.2 hp).2 h1
  ·have := HP.o.flt b hb; omega⟩
 obtain ⟨kb1, ko1, B1, q1, eA, HE1⟩ := HP.o.sub (i := 0) (m1 := m) (lp1 := lp) (by omega) HKS.o.tn.size (HKS.o.keeps (fun b hb => HP.o.fr b hb)) HKS.o.here hgG hE (by rw [HO.o]; simp [Zm]) (by omega) (fun x hx => Nat.le_trans (HP.o.lm x hx) (by omega)) (by have := HP.o.exb; have := Zq c; omega);cases eA;refine (IH _ rfl w CB G L lp lv LB E ex F (c.kid 0) kb (ko + 0 * 6) B1 q1 (m) HE1).mono ?_;rintro e w1 ⟨rfl, G1, E1, hks⟩;obtain ⟨r1, hr⟩ : ∃ z, z = cg (n + 1) (c.kid 0) (m) (lp) (L.length) := ⟨_, rfl⟩;rw [← hr] at hks;have HR1 := zh hr;have hq1 : r1.2.length ≤ Z0 (c.kid 0) := by rw [hr]; exact Z1 _ _ _ _ _ HE1.o.ok
 replace hks := HKS.o.trans hks;clear hr hgG hE;obtain ⟨x1, hx⟩ : ∃ z, z = ex ++ r1.2 := ⟨_, rfl⟩;rw [← hx] at hks;have HX1 := zh (show x1 = ex ++ (r1.2) by rw [hx]; try simp);have hxl1 : x1.length = ex.length + r1.2.length := by rw [hx]; simp
 clear hx;obtain ⟨L1, hL⟩ : ∃ z, z = L ++ r1.1 := ⟨_, rfl⟩;rw [← hL] at hks;have HL1 := zh (show L1 = L ++ (r1.1) by rw [hL]; try simp [Zg]);have hl1 : L1.length = L.length + r1.1.length := by rw [hL]; simp
 have HK1 := zh hks;clear hks hL;go_wp2_with fail;refine (Z2 CB G1 L1 29 0 0 c.line ⟨#[]⟩ _ HK1.o.im (by unfold Zi; omega) (by unfold Zi; omega) (by unfold Zi; omega) HN3.o (Nat.zero_le _)).mono ?_;rintro e w2 ⟨z2, G2, rfl, zl2, zu2, hz, him, hG, ht⟩;have HZ2 := zh (show L.length + r1.1.length < 60000 → z2 = ((L.length + r1.1.length : Nat) : Int) from fun h => by have := hz (by have := hl1; omega); have := hl1; omega);have hks := HK1.o.step ht him hG (by simp);clear him hG ht hz;obtain ⟨L2, hL⟩ : ∃ z, z = L1 ++ [(⟨29, 0, 0, c.line, ⟨#[]⟩⟩ : Ze)] := ⟨_, rfl⟩;rw [← hL] at hks;have HL2 := zh (show L2 = L ++ (r1.1 ++ ([Zg 29 0 c.line])) by rw [hL, HL1.o]; try simp [Zg]);have hl2 : L2.length = L.length + r1.1.length + 1 := by rw [hL]; simp [hl1]
 have HK2 := zh hks;clear hks hL;go_wp2_with fail
 go_end0
 refine ⟨rfl, G2, E1, ?_⟩;show KS w w2 CB G G2 (L ++ (Zk (cg (n + 1)) c m lp L.length).1) lp lv LB E E1 (ex ++ (Zk (cg (n + 1)) c m lp L.length).2);rw [Zfv HO.o];simp only [← HR1.o];refine HK2.o.cast ?_ ?_
 ·rw [HL2.o]; try simp
 ·rw [HX1.o]; try simp
theorem Zr1 (n : Nat) (IH : ∀ n', n = n' + 1 → Zb7 n') (w : World) (CB : Nat) (G : Nat → Prop) (L : List Ze) (lp : Option Zr) (lv : Value) (LB : Nat) (E : Nat → Prop) (ex : List Nat) (F : Nat → Prop) (c : Zd) (cb co : Nat) (A : Option Addr) (k m : Nat) (HP : Hd (Zbm n w CB G L lp lv LB E ex F c cb co A k m)) (ho : c.kind = 27) (hle : L.length ≤ 60000) :
  Calls Tryz.prog 82 #[.pointer (some ⟨CB, 0, none⟩), .pointer (some ⟨cb, co, none⟩), .int .i64 m, lv] w (Zbk n w CB G L lp lv LB E ex c m) := by
 have HO := zh ho;obtain ⟨L0, iv, ov, hi⟩ := HP.o.ks.im;obtain ⟨rfl, e0⟩ := hi.not_over hle;rw [e0] at hi;obtain ⟨Ai, ci, rfl, -⟩ := id hi.row;have b0 := cz2 hi.blk;have fb0 := fz hi.blk;clear hi e0 L0;have HKS := zh HP.o.ks;have HN3 := zh HP.o.ca.n3;have hmb : m ≤ 1000000 := by have := HP.o.mb; omega
 have tm1 : IntKind.i64.wrap ((m : Int) + 1) = ((m + 1 : Nat) : Int) := by rw [IntWalk.i64_in _ (by omega)]; rfl
 have c0 := HP.o.ca.c0;have c3 := HP.o.ca.c3;have c5 := HP.o.ca.c5;rw [ho] at c0;clear ho;go_enter Tryz.func82, Tryz.ntmps82;go_wp2_with fail;refine (Zn6 n IH w CB G L lp lv LB E ex F c cb co A k m HP HO.o hle).mono ?_;rintro e w1 ⟨rfl, h⟩;go_wp2_with fail
 go_end0
 exact ⟨rfl, h⟩
theorem Zn7 (n : Nat) (IH : ∀ n', n = n' + 1 → Zb7 n') (w : World) (CB : Nat) (G : Nat → Prop) (L : List Ze) (lp : Option Zr) (lv : Value) (LB : Nat) (E : Nat → Prop) (ex : List Nat) (F : Nat → Prop) (c : Zd) (cb co : Nat) (A : Option Addr) (k m : Nat) (HP : Hd (Zbm n w CB G L lp lv LB E ex F c cb co A k m)) (ho : c.kind = 25) (hle : L.length ≤ 60000) :
  Calls Tryz.prog 140 #[.pointer (some ⟨CB, 0, none⟩), .pointer (some ⟨cb, co, none⟩), .int .i64 m, lv] w (Zbk n w CB G L lp lv LB E ex c m) := by
 have HO := zh ho;obtain ⟨L0, iv, ov, hi⟩ := HP.o.ks.im;obtain ⟨rfl, e0⟩ := hi.not_over hle;rw [e0] at hi;obtain ⟨Ai, ci, rfl, -⟩ := id hi.row;have b0 := cz2 hi.blk;have fb0 := fz hi.blk;clear hi e0 L0;have HKS := zh HP.o.ks;have HN3 := zh HP.o.ca.n3;have hmb : m ≤ 1000000 := by have := HP.o.mb; omega
 have tm1 : IntKind.i64.wrap ((m : Int) + 1) = ((m + 1 : Nat) : Int) := by rw [IntWalk.i64_in _ (by omega)]; rfl
 have hkn : 2 ≤ c.kids.length := by have := HP.o.ok.2.1; rw [ho] at this; exact this
 obtain ⟨n', rfl⟩ := HP.o.ca.lev (i := 0) (by omega);obtain ⟨n, rfl⟩ : ∃ z, z = n' := ⟨_, rfl⟩;obtain ⟨kb, ko, B0, q0, rfl, -⟩ := CAt.kid HP.o.ca.kids (i := 0) (by omega);have hkn2 : (2 : Int) ≤ (c.kids.length : Int) := by omega
 have hcnt := Ze3 (c := c) hkn;have c0 := HP.o.ca.c0;have c3 := HP.o.ca.c3;have c5 := HP.o.ca.c5;rw [ho] at c0;clear ho;go_enter Tryz.func140, Tryz.ntmps140;go_wp2_with fail;have hgG : ∀ b, G b → G b ∨ w.heap.size ≤ b := HKS.o.gG;have hE : lp.isSome = true → ∀ b, F b → b ≠ LB ∧ ¬ E b := fun hp b hb => ⟨((HP.o.fr b hb).2.2 hp).1, fun he => by
  obtain ⟨x, hx⟩ := Option.isSome_iff_exists.1 hp
  rcases (HKS.o.lk x hx).2.2.2.2.2.2 b he with h1 | h1
  ·exact ((HP.o.fr b hb).2.2 hp).2 h1
  ·have := HP.o.flt b hb; omega⟩
 obtain ⟨kb1, ko1, B1, q1, eA, HE1⟩ := HP.o.sub (i := 0) (m1 := m) (lp1 := lp) (by omega) HKS.o.tn.size (HKS.o.keeps (fun b hb => HP.o.fr b hb)) HKS.o.here hgG hE (by rw [HO.o]; simp [Zm]) (by omega) (fun x hx => Nat.le_trans (HP.o.lm x hx) (by omega)) (by have := HP.o.exb; have := Zq c; omega);cases eA;refine (IH _ rfl w CB G L lp lv LB E ex F (c.kid 0) kb (ko + 0 * 6) B1 q1 (m) HE1).mono ?_;rintro e w1 ⟨rfl, G1, E1, hks⟩;obtain ⟨r1, hr⟩ : ∃ z, z = cg (n + 1) (c.kid 0) (m) (lp) (L.length) := ⟨_, rfl⟩;rw [← hr] at hks;have HR1 := zh hr;have hq1 : r1.2.length ≤ Z0 (c.kid 0) := by rw [hr]; exact Z1 _ _ _ _ _ HE1.o.ok
 replace hks := HKS.o.trans hks;clear hr hgG hE;obtain ⟨x1, hx⟩ : ∃ z, z = ex ++ r1.2 := ⟨_, rfl⟩;rw [← hx] at hks;have HX1 := zh (show x1 = ex ++ (r1.2) by rw [hx]; try simp);have hxl1 : x1.length = ex.length + r1.2.length := by rw [hx]; simp
 clear hx;obtain ⟨L1, hL⟩ : ∃ z, z = L ++ r1.1 := ⟨_, rfl⟩;rw [← hL] at hks;have HL1 := zh (show L1 = L ++ (r1.1) by rw [hL]; try simp [Zg]);have hl1 : L1.length = L.length + r1.1.length := by rw [hL]; simp
 have HK1 := zh hks;clear hks hL;go_wp2_with fail;refine (Z2 CB G1 L1 26 0 0 c.line ⟨#[]⟩ _ HK1.o.im (by unfold Zi; omega) (by unfold Zi; omega) (by unfold Zi; omega) HN3.o (Nat.zero_le _)).mono ?_;rintro e w2 ⟨z2, G2, rfl, zl2, zu2, hz, him, hG, ht⟩;have HZ2 := zh (show L.length + r1.1.length < 60000 → z2 = ((L.length + r1.1.length : Nat) : Int) from fun h => by have := hz (by have := hl1; omega); have := hl1; omega);have hks := HK1.o.step ht him hG (by simp);clear him hG ht hz;obtain ⟨L2, hL⟩ : ∃ z, z = L1 ++ [(⟨26, 0, 0, c.line, ⟨#[]⟩⟩ : Ze)] := ⟨_, rfl⟩;rw [← hL] at hks;have HL2 := zh (show L2 = L ++ (r1.1 ++ ([Zg 26 0 c.line])) by rw [hL, HL1.o]; try simp [Zg]);have hl2 : L2.length = L.length + r1.1.length + 1 := by rw [hL]; simp [hl1]
 have HK2 := zh hks;clear hks hL;go_wp2_with fail;have hgG : ∀ b, G2 b → G b ∨ w.heap.size ≤ b := HK2.o.gG;have hE : lp.isSome = true → ∀ b, F b → b ≠ LB ∧ ¬ E1 b := fun hp b hb => ⟨((HP.o.fr b hb).2.2 hp).1, fun he => by
  obtain ⟨x, hx⟩ := Option.isSome_iff_exists.1 hp
  rcases (HK2.o.lk x hx).2.2.2.2.2.2 b he with h1 | h1
  ·exact ((HP.o.fr b hb).2.2 hp).2 h1
  ·have := HP.o.flt b hb; omega⟩
 obtain ⟨kb3, ko3, B3, q3, eA, HE3⟩ := HP.o.sub (i := 1) (m1 := m + 1) (lp1 := lp) (by omega) HK2.o.tn.size (HK2.o.keeps (fun b hb => HP.o.fr b hb)) HK2.o.here hgG hE (by rw [HO.o]; simp [Zm]) (by omega) (fun x hx => Nat.le_trans (HP.o.lm x hx) (by omega)) (by have := HP.o.exb; have := Zq c; have := hxl1; omega);cases eA;refine (Zcs _ (IH _ rfl) w2 CB G2 L2 lp lv LB E1 x1 F (c.kid 1) kb (ko + 1 * 6) B3 q3 (m) HE3).mono ?_;rintro e w3 ⟨z3, G3, E3, rfl, zl3, zu3, hz, hks⟩;rw [hl2] at hks;have HZ3 := zh (show L.length + r1.1.length + 1 < 60000 → z3 = ((L.length + r1.1.length + 1 : Nat) : Int) from fun h => by have := hz (by have := hl2; omega); have := hl2; omega);clear hz;obtain ⟨r3, hr⟩ : ∃ z, z = cg (n + 1) (c.kid 1) (m + 1) (lp) (L.length + r1.1.length + 1 + 1) := ⟨_, rfl⟩;rw [← hr] at hks;have HR3 := zh hr;have hq3 : r3.2.length ≤ Z0 (c.kid 1) := by rw [hr]; exact Z1 _ _ _ _ _ HE3.o.ok
 replace hks := HK2.o.trans hks;clear hr hgG hE;obtain ⟨x3, hx⟩ : ∃ z, z = x1 ++ r3.2 := ⟨_, rfl⟩;rw [← hx] at hks;have HX3 := zh (show x3 = ex ++ (r1.2 ++ (r3.2)) by rw [hx, HX1.o]; try simp);have hxl3 : x3.length = x1.length + r3.2.length := by rw [hx]; simp
 clear hx;obtain ⟨L3, hL⟩ : ∃ z, z = L2 ++ (Zg 13 0 (c.kid 1).line :: (r3.1 ++ [Zg 14 0 (c.kid 1).line])) := ⟨_, rfl⟩;rw [← hL] at hks;have HL3 := zh (show L3 = L ++ (r1.1 ++ ([Zg 26 0 c.line] ++ ([Zg 13 0 (c.kid 1).line] ++ (r3.1 ++ ([Zg 14 0 (c.kid 1).line]))))) by rw [hL, HL2.o]; try simp [Zg]);have hl3 : L3.length = L.length + r1.1.length + 1 + r3.1.length + 2 := by rw [hL]; simp [hl2]; omega
 have HK3 := zh hks;clear hks hL;go_wp2_with fail;refine (Zbp CB G3 L3 (L.length + r1.1.length + 1) z3 _ HK3.o.im (fun h => ⟨by have := HZ3.o (by omega); omega, by omega⟩)).mono ?_;rintro e w4 ⟨rfl, him, ht⟩;have hks := HK3.o.step ht him (fun _ h => .inl h) (by rw [Zp]; exact Nat.le_refl _);clear him ht;have hpt := Zav (LL := L3) (A := L ++ (r1.1 ++ ([Zg 26 0 c.line]))) (B := r3.1 ++ ([Zg 14 0 (c.kid 1).line])) (op := 13) (a0 := 0) (l := (c.kid 1).line) (i := L.length + r1.1.length + 1) (k := L.length + r1.1.length + 1 + r3.1.length + 2) (by rw [HL3.o]; simp) (by simp; try omega) hl3;rw [hpt] at hks;obtain ⟨L4, hL⟩ : ∃ z, z = L ++ (r1.1 ++ ([Zg 26 0 c.line])) ++ Zg 13 ((L.length + r1.1.length + 1 + r3.1.length + 2 : Nat) : Int) (c.kid 1).line :: (r3.1 ++ ([Zg 14 0 (c.kid 1).line])) := ⟨_, rfl⟩;rw [← hL] at hks;have HL4 := zh (show L4 = L ++ (r1.1 ++ ([Zg 26 0 c.line] ++ ([Zg 13 ((L.length + r1.1.length + 1 + r3.1.length + 2 : Nat) : Int) (c.kid 1).line] ++ (r3.1 ++ ([Zg 14 0 (c.kid 1).line]))))) by rw [hL]; simp);have hl4 : L4.length = L.length + r1.1.length + 1 + r3.1.length + 2 := by rw [hL, ← hpt, Zp, hl3]
 have HK4 := zh hks;clear hks hL hpt;go_wp2_with fail;refine (Z2 CB G3 L4 16 0 0 c.line ⟨#[]⟩ _ HK4.o.im (by unfold Zi; omega) (by unfold Zi; omega) (by unfold Zi; omega) HN3.o (Nat.zero_le _)).mono ?_;rintro e w5 ⟨z5, G5, rfl, zl5, zu5, hz, him, hG, ht⟩;have HZ5 := zh (show L.length + r1.1.length + 1 + r3.1.length + 2 < 60000 → z5 = ((L.length + r1.1.length + 1 + r3.1.length + 2 : Nat) : Int) from fun h => by have := hz (by have := hl4; omega); have := hl4; omega);have hks := HK4.o.step ht him hG (by simp);clear him hG ht hz;obtain ⟨L5, hL⟩ : ∃ z, z = L4 ++ [(⟨16, 0, 0, c.line, ⟨#[]⟩⟩ : Ze)] := ⟨_, rfl⟩;rw [← hL] at hks;have HL5 := zh (show L5 = L ++ (r1.1 ++ ([Zg 26 0 c.line] ++ ([Zg 13 ((L.length + r1.1.length + 1 + r3.1.length + 2 : Nat) : Int) (c.kid 1).line] ++ (r3.1 ++ ([Zg 14 0 (c.kid 1).line] ++ ([Zg 16 0 c.line])))))) by rw [hL, HL4.o]; try simp [Zg]);have hl5 : L5.length = L.length + r1.1.length + 1 + r3.1.length + 2 + 1 := by rw [hL]; simp [hl4]
 have HK5 := zh hks;clear hks hL;go_wp2_with fail
 go_end0
 refine ⟨rfl, G5, E3, ?_⟩;show KS w w5 CB G G5 (L ++ (Zk (cg (n + 1)) c m lp L.length).1) lp lv LB E E3 (ex ++ (Zk (cg (n + 1)) c m lp L.length).2);rw [Zft HO.o];simp only [bnd, Zaq];simp only [← HR1.o, ← HR3.o];refine HK5.o.cast ?_ ?_
 ·rw [HL5.o]; try simp [Nat.add_assoc]
 ·rw [HX3.o]; try simp
theorem Zr2 (n : Nat) (IH : ∀ n', n = n' + 1 → Zb7 n') (w : World) (CB : Nat) (G : Nat → Prop) (L : List Ze) (lp : Option Zr) (lv : Value) (LB : Nat) (E : Nat → Prop) (ex : List Nat) (F : Nat → Prop) (c : Zd) (cb co : Nat) (A : Option Addr) (k m : Nat) (HP : Hd (Zbm n w CB G L lp lv LB E ex F c cb co A k m)) (ho : c.kind = 25) (hle : L.length ≤ 60000) :
  Calls Tryz.prog 82 #[.pointer (some ⟨CB, 0, none⟩), .pointer (some ⟨cb, co, none⟩), .int .i64 m, lv] w (Zbk n w CB G L lp lv LB E ex c m) := by
 have HO := zh ho;obtain ⟨L0, iv, ov, hi⟩ := HP.o.ks.im;obtain ⟨rfl, e0⟩ := hi.not_over hle;rw [e0] at hi;obtain ⟨Ai, ci, rfl, -⟩ := id hi.row;have b0 := cz2 hi.blk;have fb0 := fz hi.blk;clear hi e0 L0;have HKS := zh HP.o.ks;have HN3 := zh HP.o.ca.n3;have hmb : m ≤ 1000000 := by have := HP.o.mb; omega
 have tm1 : IntKind.i64.wrap ((m : Int) + 1) = ((m + 1 : Nat) : Int) := by rw [IntWalk.i64_in _ (by omega)]; rfl
 have c0 := HP.o.ca.c0;have c3 := HP.o.ca.c3;have c5 := HP.o.ca.c5;rw [ho] at c0;clear ho;go_enter Tryz.func82, Tryz.ntmps82;go_wp2_with fail;refine (Zn7 n IH w CB G L lp lv LB E ex F c cb co A k m HP HO.o hle).mono ?_;rintro e w1 ⟨rfl, h⟩;go_wp2_with fail
 go_end0
 exact ⟨rfl, h⟩
theorem Zn8 (n : Nat) (IH : ∀ n', n = n' + 1 → Zb7 n') (w : World) (CB : Nat) (G : Nat → Prop) (L : List Ze) (lp : Option Zr) (lv : Value) (LB : Nat) (E : Nat → Prop) (ex : List Nat) (F : Nat → Prop) (c : Zd) (cb co : Nat) (A : Option Addr) (k m : Nat) (HP : Hd (Zbm n w CB G L lp lv LB E ex F c cb co A k m)) (ho : c.kind = 26) (hle : L.length ≤ 60000) :
  Calls Tryz.prog 140 #[.pointer (some ⟨CB, 0, none⟩), .pointer (some ⟨cb, co, none⟩), .int .i64 m, lv] w (Zbk n w CB G L lp lv LB E ex c m) := by
 have HO := zh ho;obtain ⟨L0, iv, ov, hi⟩ := HP.o.ks.im;obtain ⟨rfl, e0⟩ := hi.not_over hle;rw [e0] at hi;obtain ⟨Ai, ci, rfl, -⟩ := id hi.row;have b0 := cz2 hi.blk;have fb0 := fz hi.blk;clear hi e0 L0;have HKS := zh HP.o.ks;have HN3 := zh HP.o.ca.n3;have hmb : m ≤ 1000000 := by have := HP.o.mb; omega
 have tm1 : IntKind.i64.wrap ((m : Int) + 1) = ((m + 1 : Nat) : Int) := by rw [IntWalk.i64_in _ (by omega)]; rfl
 have hkn : 1 ≤ c.kids.length := by have := HP.o.ok.2.1; rw [ho] at this; exact this
 obtain ⟨n', rfl⟩ := HP.o.ca.lev (i := 0) (by omega);obtain ⟨n, rfl⟩ : ∃ z, z = n' := ⟨_, rfl⟩;obtain ⟨kb, ko, B0, q0, rfl, -⟩ := CAt.kid HP.o.ca.kids (i := 0) (by omega);have hkn2 : (1 : Int) ≤ (c.kids.length : Int) := by omega
 have hcnt := Zfw (c := c) hkn;have c0 := HP.o.ca.c0;have c3 := HP.o.ca.c3;have c5 := HP.o.ca.c5;rw [ho] at c0;clear ho;go_enter Tryz.func140, Tryz.ntmps140;go_wp2_with fail;refine (Z2 CB G L 27 0 0 c.line ⟨#[]⟩ _ HKS.o.im (by unfold Zi; omega) (by unfold Zi; omega) (by unfold Zi; omega) HN3.o (Nat.zero_le _)).mono ?_;rintro e w1 ⟨z1, G1, rfl, zl1, zu1, hz, him, hG, ht⟩;have HZ1 := zh (show L.length < 60000 → z1 = ((L.length : Nat) : Int) from fun h => by have := hz (by omega); omega);have hks := HKS.o.step ht him hG (by simp);clear him hG ht hz;obtain ⟨L1, hL⟩ : ∃ z, z = L ++ [(⟨27, 0, 0, c.line, ⟨#[]⟩⟩ : Ze)] := ⟨_, rfl⟩;rw [← hL] at hks;have HL1 := zh (show L1 = L ++ ([Zg 27 0 c.line]) by rw [hL]; try simp [Zg]);have hl1 : L1.length = L.length + 1 := by rw [hL]; simp
 have HK1 := zh hks;clear hks hL;go_wp2_with fail;refine (Z2 CB G1 L1 15 0 0 c.line ⟨#[]⟩ _ HK1.o.im (by unfold Zi; omega) (by unfold Zi; omega) (by unfold Zi; omega) HN3.o (Nat.zero_le _)).mono ?_;rintro e w2 ⟨z2, G2, rfl, zl2, zu2, hz, him, hG, ht⟩;have HZ2 := zh (show L.length + 1 < 60000 → z2 = ((L.length + 1 : Nat) : Int) from fun h => by have := hz (by have := hl1; omega); have := hl1; omega);have hks := HK1.o.step ht him hG (by simp);clear him hG ht hz;obtain ⟨L2, hL⟩ : ∃ z, z = L1 ++ [(⟨15, 0, 0, c.line, ⟨#[]⟩⟩ : Ze)] := ⟨_, rfl⟩;rw [← hL] at hks;have HL2 := zh (show L2 = L ++ ([Zg 27 0 c.line] ++ ([Zg 15 0 c.line])) by rw [hL, HL1.o]; try simp [Zg]);have hl2 : L2.length = L.length + 1 + 1 := by rw [hL]; simp [hl1]
 have HK2 := zh hks;clear hks hL;go_wp2_with fail;refine (Zbp CB G2 L2 (L.length) z1 _ HK2.o.im (fun h => ⟨by have := HZ1.o (by omega); omega, by omega⟩)).mono ?_;rintro e w3 ⟨rfl, him, ht⟩;have hks := HK2.o.step ht him (fun _ h => .inl h) (by rw [Zp]; exact Nat.le_refl _);clear him ht;have hpt := Zav (LL := L2) (A := L) (B := [Zg 15 0 c.line]) (op := 27) (a0 := 0) (l := c.line) (i := L.length) (k := L.length + 1 + 1) (by rw [HL2.o]; simp) (by simp; try omega) hl2;rw [hpt] at hks;obtain ⟨L3, hL⟩ : ∃ z, z = L ++ Zg 27 ((L.length + 1 + 1 : Nat) : Int) c.line :: ([Zg 15 0 c.line]) := ⟨_, rfl⟩;rw [← hL] at hks;have HL3 := zh (show L3 = L ++ ([Zg 27 ((L.length + 1 + 1 : Nat) : Int) c.line] ++ ([Zg 15 0 c.line])) by rw [hL]; simp);have hl3 : L3.length = L.length + 1 + 1 := by rw [hL, ← hpt, Zp, hl2]
 have HK3 := zh hks;clear hks hL hpt;go_wp2_with fail;have hgG : ∀ b, G2 b → G b ∨ w.heap.size ≤ b := HK3.o.gG;obtain ⟨kb4, ko4, B4, q4, eA, HE4⟩ := HP.o.sub (i := 0) (m1 := 0) (lp1 := none) (by omega) HK3.o.tn.size (HK3.o.keeps (fun b hb => HP.o.fr b hb)) (HK3.o.none_ (.pointer none)) hgG (fun h => by simp at h) (by rw [HO.o]; simp [Zm]) (by omega) (fun x hx => by simp at hx) (by have := HP.o.exb; have := Zq c; simp; omega);cases eA;refine (IH _ rfl w3 CB G2 L3 none (.pointer none) 0 (fun _ => False) [] F (c.kid 0) kb (ko + 0 * 6) B4 q4 (0) HE4).mono ?_;rintro e w4 ⟨rfl, G4, E4, hks⟩;rw [hl3] at hks;obtain ⟨r4, hr⟩ : ∃ z, z = cg (n + 1) (c.kid 0) (0) (none) (L.length + 1 + 1) := ⟨_, rfl⟩;rw [← hr] at hks;have HR4 := zh hr;have hq4 : r4.2.length ≤ Z0 (c.kid 0) := by rw [hr]; exact Z1 _ _ _ _ _ HE4.o.ok
 replace hks := HK3.o.back hks (fun h => by simp at h) (by simp);clear hr hgG;obtain ⟨L4, hL⟩ : ∃ z, z = L3 ++ r4.1 := ⟨_, rfl⟩;rw [← hL] at hks;have HL4 := zh (show L4 = L ++ ([Zg 27 ((L.length + 1 + 1 : Nat) : Int) c.line] ++ ([Zg 15 0 c.line] ++ (r4.1))) by rw [hL, HL3.o]; try simp [Zg]);have hl4 : L4.length = L.length + 1 + 1 + r4.1.length := by rw [hL]; simp [hl3]
 have HK4 := zh hks;clear hks hL;go_wp2_with fail;refine (Z2 CB G4 L4 28 0 0 c.line ⟨#[]⟩ _ HK4.o.im (by unfold Zi; omega) (by unfold Zi; omega) (by unfold Zi; omega) HN3.o (Nat.zero_le _)).mono ?_;rintro e w5 ⟨z5, G5, rfl, zl5, zu5, hz, him, hG, ht⟩;have HZ5 := zh (show L.length + 1 + 1 + r4.1.length < 60000 → z5 = ((L.length + 1 + 1 + r4.1.length : Nat) : Int) from fun h => by have := hz (by have := hl4; omega); have := hl4; omega);have hks := HK4.o.step ht him hG (by simp);clear him hG ht hz;obtain ⟨L5, hL⟩ : ∃ z, z = L4 ++ [(⟨28, 0, 0, c.line, ⟨#[]⟩⟩ : Ze)] := ⟨_, rfl⟩;rw [← hL] at hks;have HL5 := zh (show L5 = L ++ ([Zg 27 ((L.length + 1 + 1 : Nat) : Int) c.line] ++ ([Zg 15 0 c.line] ++ (r4.1 ++ ([Zg 28 0 c.line])))) by rw [hL, HL4.o]; try simp [Zg]);have hl5 : L5.length = L.length + 1 + 1 + r4.1.length + 1 := by rw [hL]; simp [hl4]
 have HK5 := zh hks;clear hks hL;go_wp2_with fail;refine (Zbp CB G5 L5 (L.length + 1) z2 _ HK5.o.im (fun h => ⟨by have := HZ2.o (by omega); omega, by omega⟩)).mono ?_;rintro e w6 ⟨rfl, him, ht⟩;have hks := HK5.o.step ht him (fun _ h => .inl h) (by rw [Zp]; exact Nat.le_refl _);clear him ht;have hpt := Zav (LL := L5) (A := L ++ ([Zg 27 ((L.length + 1 + 1 : Nat) : Int) c.line])) (B := r4.1 ++ ([Zg 28 0 c.line])) (op := 15) (a0 := 0) (l := c.line) (i := L.length + 1) (k := L.length + 1 + 1 + r4.1.length + 1) (by rw [HL5.o]; simp) (by simp; try omega) hl5;rw [hpt] at hks;obtain ⟨L6, hL⟩ : ∃ z, z = L ++ ([Zg 27 ((L.length + 1 + 1 : Nat) : Int) c.line]) ++ Zg 15 ((L.length + 1 + 1 + r4.1.length + 1 : Nat) : Int) c.line :: (r4.1 ++ ([Zg 28 0 c.line])) := ⟨_, rfl⟩;rw [← hL] at hks;have HL6 := zh (show L6 = L ++ ([Zg 27 ((L.length + 1 + 1 : Nat) : Int) c.line] ++ ([Zg 15 ((L.length + 1 + 1 + r4.1.length + 1 : Nat) : Int) c.line] ++ (r4.1 ++ ([Zg 28 0 c.line])))) by rw [hL]; simp);have hl6 : L6.length = L.length + 1 + 1 + r4.1.length + 1 := by rw [hL, ← hpt, Zp, hl5]
 have HK6 := zh hks;clear hks hL hpt;go_wp2_with fail
 go_end0
 refine ⟨rfl, G5, E, ?_⟩;show KS w w6 CB G G5 (L ++ (Zk (cg (n + 1)) c m lp L.length).1) lp lv LB E E (ex ++ (Zk (cg (n + 1)) c m lp L.length).2);rw [Zfu HO.o];simp only [← HR4.o];refine HK6.o.cast ?_ ?_
 ·rw [HL6.o]; try simp [Int.add_assoc]
 ·simp
theorem Zr3 (n : Nat) (IH : ∀ n', n = n' + 1 → Zb7 n') (w : World) (CB : Nat) (G : Nat → Prop) (L : List Ze) (lp : Option Zr) (lv : Value) (LB : Nat) (E : Nat → Prop) (ex : List Nat) (F : Nat → Prop) (c : Zd) (cb co : Nat) (A : Option Addr) (k m : Nat) (HP : Hd (Zbm n w CB G L lp lv LB E ex F c cb co A k m)) (ho : c.kind = 26) (hle : L.length ≤ 60000) :
  Calls Tryz.prog 82 #[.pointer (some ⟨CB, 0, none⟩), .pointer (some ⟨cb, co, none⟩), .int .i64 m, lv] w (Zbk n w CB G L lp lv LB E ex c m) := by
 have HO := zh ho;obtain ⟨L0, iv, ov, hi⟩ := HP.o.ks.im;obtain ⟨rfl, e0⟩ := hi.not_over hle;rw [e0] at hi;obtain ⟨Ai, ci, rfl, -⟩ := id hi.row;have b0 := cz2 hi.blk;have fb0 := fz hi.blk;clear hi e0 L0;have HKS := zh HP.o.ks;have HN3 := zh HP.o.ca.n3;have hmb : m ≤ 1000000 := by have := HP.o.mb; omega
 have tm1 : IntKind.i64.wrap ((m : Int) + 1) = ((m + 1 : Nat) : Int) := by rw [IntWalk.i64_in _ (by omega)]; rfl
 have c0 := HP.o.ca.c0;have c3 := HP.o.ca.c3;have c5 := HP.o.ca.c5;rw [ho] at c0;clear ho;go_enter Tryz.func82, Tryz.ntmps82;go_wp2_with fail;refine (Zn8 n IH w CB G L lp lv LB E ex F c cb co A k m HP HO.o hle).mono ?_;rintro e w1 ⟨rfl, h⟩;go_wp2_with fail
 go_end0
 exact ⟨rfl, h⟩
theorem Zr4 (n : Nat) (IH : ∀ n', n = n' + 1 → Zb7 n') (w : World) (CB : Nat) (G : Nat → Prop) (L : List Ze) (lp : Option Zr) (lv : Value) (LB : Nat) (E : Nat → Prop) (ex : List Nat) (F : Nat → Prop) (c : Zd) (cb co : Nat) (A : Option Addr) (k m : Nat) (HP : Hd (Zbm n w CB G L lp lv LB E ex F c cb co A k m)) (ho : c.kind = 28) (hle : L.length ≤ 60000) :
  Calls Tryz.prog 82 #[.pointer (some ⟨CB, 0, none⟩), .pointer (some ⟨cb, co, none⟩), .int .i64 m, lv] w (Zbk n w CB G L lp lv LB E ex c m) := by
 have HO := zh ho;obtain ⟨L0, iv, ov, hi⟩ := HP.o.ks.im;obtain ⟨rfl, e0⟩ := hi.not_over hle;rw [e0] at hi;obtain ⟨Ai, ci, rfl, -⟩ := id hi.row;have b0 := cz2 hi.blk;have fb0 := fz hi.blk;clear hi e0 L0;have HKS := zh HP.o.ks;have HN3 := zh HP.o.ca.n3;have hmb : m ≤ 1000000 := by have := HP.o.mb; omega
 have tm1 : IntKind.i64.wrap ((m : Int) + 1) = ((m + 1 : Nat) : Int) := by rw [IntWalk.i64_in _ (by omega)]; rfl
 have c0 := HP.o.ca.c0;have c3 := HP.o.ca.c3;have c5 := HP.o.ca.c5;rw [ho] at c0;clear ho;go_enter Tryz.func82, Tryz.ntmps82;go_wp2_with fail;refine (Z2 CB G L 16 0 0 c.line ⟨#[]⟩ _ HKS.o.im (by unfold Zi; omega) (by unfold Zi; omega) (by unfold Zi; omega) HN3.o (Nat.zero_le _)).mono ?_;rintro e w1 ⟨z1, G1, rfl, zl1, zu1, hz, him, hG, ht⟩;have HZ1 := zh (show L.length < 60000 → z1 = ((L.length : Nat) : Int) from fun h => by have := hz (by omega); omega);have hks := HKS.o.step ht him hG (by simp);clear him hG ht hz;obtain ⟨L1, hL⟩ : ∃ z, z = L ++ [(⟨16, 0, 0, c.line, ⟨#[]⟩⟩ : Ze)] := ⟨_, rfl⟩;rw [← hL] at hks;have HL1 := zh (show L1 = L ++ ([Zg 16 0 c.line]) by rw [hL]; try simp [Zg]);have hl1 : L1.length = L.length + 1 := by rw [hL]; simp
 have HK1 := zh hks;clear hks hL;go_wp2_with fail
 go_end0
 refine ⟨rfl, G1, E, ?_⟩;show KS w w1 CB G G1 (L ++ (Zk (cg n) c m lp L.length).1) lp lv LB E E (ex ++ (Zk (cg n) c m lp L.length).2);rw [Zfj HO.o];refine HK1.o.cast ?_ ?_
 ·rw [HL1.o]; try simp
 ·simp
theorem Zo0 (n : Nat) (IH : ∀ n', n = n' + 1 → Zb7 n') (w : World) (CB : Nat) (G : Nat → Prop) (L : List Ze) (lp : Option Zr) (lv : Value) (LB : Nat) (E : Nat → Prop) (ex : List Nat) (F : Nat → Prop) (c : Zd) (cb co : Nat) (A : Option Addr) (k m : Nat) (HP : Hd (Zbm n w CB G L lp lv LB E ex F c cb co A k m)) (ho : 60000 < L.length) :
  Calls Tryz.prog 82 #[.pointer (some ⟨CB, 0, none⟩), .pointer (some ⟨cb, co, none⟩), .int .i64 m, lv] w (Zbk n w CB G L lp lv LB E ex c m) := by
 have HO := zh ho;obtain ⟨L0, iv, ov, hi⟩ := HP.o.ks.im;have hov := hi.ov_eq;rw [nT ho] at hov;subst hov;obtain ⟨Ai, ci, rfl, -⟩ := id hi.row;have b0 := cz2 hi.blk;have fb0 := fz hi.blk;clear hi ho;go_enter Tryz.func82, Tryz.ntmps82;go_wp2_with fail
 first | go_end0 | (refine bodyPost_ret (results_none rfl _ _ _) rfl ?_)
 exact HP.o.over HO.o
theorem Zl8 : ∀ n, Zb7 n
 | n => fun w CB G L lp lv LB E ex F c cb co A k m HP => by
  have IH : ∀ n', n = n' + 1 → Zb7 n' := fun n' h => by subst h; exact Zl8 n'
  by_cases hle : L.length ≤ 60000
  ·obtain ⟨hk1, hk2, hk3⟩ := HP.o.ok.1
   by_cases h0 : c.kind < 11
   ·exact Zqf n IH w CB G L lp lv LB E ex F c cb co A k m HP h0 hle
   by_cases h12 : c.kind = 12
   ·exact Zrn n IH w CB G L lp lv LB E ex F c cb co A k m HP h12 (zh (hk3 h12)) hle
   by_cases h11 : c.kind = 11
   ·exact Zrm n IH w CB G L lp lv LB E ex F c cb co A k m HP h11 hle
   by_cases h13 : c.kind = 13
   ·exact Zro n IH w CB G L lp lv LB E ex F c cb co A k m HP h13 hle
   by_cases h14 : c.kind = 14
   ·exact Zrp n IH w CB G L lp lv LB E ex F c cb co A k m HP h14 hle
   by_cases h15 : c.kind = 15
   ·exact Zrq n IH w CB G L lp lv LB E ex F c cb co A k m HP h15 hle
   by_cases h16 : c.kind = 16
   ·exact Zrr n IH w CB G L lp lv LB E ex F c cb co A k m HP h16 hle
   by_cases h17 : c.kind = 17
   ·exact Zrs n IH w CB G L lp lv LB E ex F c cb co A k m HP h17 hle
   by_cases h18 : c.kind = 18
   ·exact Zrt n IH w CB G L lp lv LB E ex F c cb co A k m HP h18 hle
   by_cases h19 : c.kind = 19
   ·exact Zru n IH w CB G L lp lv LB E ex F c cb co A k m HP h19 hle
   by_cases h20 : c.kind = 20
   ·exact Zrw n IH w CB G L lp lv LB E ex F c cb co A k m HP h20 hle
   by_cases h21 : c.kind = 21
   ·exact Zrx n IH w CB G L lp lv LB E ex F c cb co A k m HP h21 hle
   by_cases h22 : c.kind = 22
   ·exact Zry n IH w CB G L lp lv LB E ex F c cb co A k m HP h22 hle
   by_cases h23 : c.kind = 23
   ·exact Zrz n IH w CB G L lp lv LB E ex F c cb co A k m HP h23 hle
   by_cases h24 : c.kind = 24
   ·exact Zr0 n IH w CB G L lp lv LB E ex F c cb co A k m HP h24 hle
   by_cases h25 : c.kind = 25
   ·exact Zr2 n IH w CB G L lp lv LB E ex F c cb co A k m HP h25 hle
   by_cases h26 : c.kind = 26
   ·exact Zr3 n IH w CB G L lp lv LB E ex F c cb co A k m HP h26 hle
   by_cases h27 : c.kind = 27
   ·exact Zr1 n IH w CB G L lp lv LB E ex F c cb co A k m HP h27 hle
   by_cases h28 : c.kind = 28
   ·exact Zr4 n IH w CB G L lp lv LB E ex F c cb co A k m HP h28 hle
   exact absurd (show c.kind = 28 by omega) h28
  ·exact Zo0 n IH w CB G L lp lv LB E ex F c cb co A k m HP (by omega)
theorem Zr5 {a : Act} (N : Nat) (F : Nat → Prop) (w : World) (p : Zu) (A1 A2 A3 : Option Addr) (k1 k2 k3 : Nat) (PB ZB CB OB : Nat) (w0 : World) (HE : Hd (PgB N F w0 p A1 A2 A3 k1 k2 k3 PB)) (hflt : Hd (∀ b, F b → b < w0.heap.size)) (HRT : Hd (Zox N p)) (R U : Nat → Prop) (ev gv : Value) (HI : Hd (CmI N w0 w p CB OB R U ev gv 0)) (HF : Hd (FmL PB ZB CB OB A1 p.routines.length k1 0 a)) :
  cmLp.wp Tryz.prog (Zhx fun a' x => FmX PB ZB CB OB a' ∧ CmI N w0 x p CB OB R U ev gv p.routines.length) a w := by
 obtain ⟨iC, hiC, hz0, hz1, hz2⟩ := info_parts Zrk;obtain ⟨_, _, e1, hkc1, hkm1, _⟩ := HE.o.pg.ro;have hr1 : (p.routines.length : Int) ≤ 9223372036854775807 := by unfold maxLen at hkm1; cases e1; omega
 have hr12 := HRT.o.n;clear e1 hkc1 hkm1;have HF0 := HF;obtain ⟨fr, rfl⟩ := HF.o.opn;clear HF
 conv => arg 2; whnf
 go_wp2_with fail;refine wp_loop_ghost_k (fun g a u => ∃ j : Nat, g + j = p.routines.length ∧ FmL PB ZB CB OB A1 p.routines.length k1 j a ∧ CmI N w0 u p CB OB R U ev gv j) p.routines.length ⟨0, by omega, HF0.o, HI.o⟩ ?_;clear HF0 fr;rintro gk a u ⟨j, hg, hf, hI⟩ J K hJ hK;obtain ⟨fr, rfl⟩ := hf.opn;obtain ⟨G, H, crs, rv, iv, L0, ov, hcm, him, hcl, hcr⟩ := hI;clear hf;have HCM := zh hcm;have HIM := zh him;have HCR := zh hcr;have HCL := zh hcl;have HL0 := zh (show Za w0 u from hcm.bel);have HE2 := zh (HE.o.later HL0.o);clear hcm him hcl hcr
 by_cases hlt : j < p.routines.length
 ·have hlt' : (j : Int) < (p.routines.length : Int) := by omega
  obtain ⟨_, _, eA, _, _, hel⟩ := HE2.o.pg.ro;cases eA;obtain ⟨rb, ro, cs, rfl, hF, hb, hE, hc⟩ := hel j hlt;obtain ⟨vs, vk, rfl, hn1, hn2, hn3, hn4, hn5, hn6, hn7, hn8, hn9⟩ := hE;obtain ⟨As, ks, rfl, hsc, hsm, -⟩ := id hn3;obtain ⟨Ab, kb, rfl, hbc, hbm, -⟩ := id hn9;have e0 := hc 0 _ rfl;have e1 := hc 1 _ rfl;have e2 := hc 2 _ rfl;have e3 := hc 3 _ rfl;have e4 := hc 4 _ rfl;have e5 := hc 5 _ rfl;have e6 := hc 6 _ rfl;have e7 := hc 7 _ rfl;have e8 := hc 8 _ rfl;simp only [Nat.add_zero] at e0;have HOK := zh (HRT.o.at_ hlt);have HSU := zh (Znp (N + 1) p hlt);obtain ⟨r, hr⟩ : ∃ z, z = p.routines[j] := ⟨_, rfl⟩;rw [← hr] at e0 e1 e2 e3 e4 e5 e6 e7 e8 hn1 hn2 hn3 hn4 hn5 hn6 hn7 hn8 hn9 hsc hbc HOK HSU;have HCV := zh (show CV N F u r.body Ab kb from ⟨hn4, hn5, hn6, hn7, hn8, hn9⟩);have HNM := zh hn1;have HPM := zh hn2;have HLN := zh hn7;have hs1 : (r.slots.length : Int) ≤ 9223372036854775807 := by unfold maxLen at hsm; omega
  clear hr hn1 hn2 hn3 hn4 hn5 hn6 hn7 hn8 hn9 hsc hsm hbc hbm hc hel;have hla : Za u (u.alloc (.cells #[.string r.name, .int .i64 r.params, .slice As r.slots.length ks, .int .i64 r.body.kind, .int .i64 r.body.op, .int .i64 r.body.aB, .int .i64 r.body.line, .string r.body.text, .slice Ab r.body.kids.length kb] 70)) := (Za.refl _).alloc _;have hrb := heap_alloc_new u (.cells #[.string r.name, .int .i64 r.params, .slice As r.slots.length ks, .int .i64 r.body.kind, .int .i64 r.body.op, .int .i64 r.body.aB, .int .i64 r.body.line, .string r.body.text, .slice Ab r.body.kids.length kb] 70);obtain ⟨w3, hw3⟩ : ∃ z, u.alloc (.cells #[.string r.name, .int .i64 r.params, .slice As r.slots.length ks, .int .i64 r.body.kind, .int .i64 r.body.op, .int .i64 r.body.aB, .int .i64 r.body.line, .string r.body.text, .slice Ab r.body.kids.length kb] 70) = z := ⟨_, rfl⟩;rw [hw3] at hla hrb;have HLA := zh hla;have HRB := zh hrb;have HW3 := zh hw3;obtain ⟨RB, hRB⟩ : ∃ z, z = u.heap.size := ⟨_, rfl⟩;clear hla hrb hw3;go_upto_region 8 with (fail);rw [HW3.o];rw [← hRB] at HRB ⊢;have HRS := zh hRB;clear hRB e0 e1 e2 e3 e4 e5 e6 e7 e8;obtain ⟨Ar, cr, rfl, hrc, hrm, -⟩ := id HCM.o.rr;refine Z3 [13, 14, 15] [] (by kernel_rfl) (fun W hW => ?_);have hlW : Za w3 W := by rw [hW]; exact (Za.refl _).drew
  clear hW;have HIW := zh ((HIM.o.later HLA.o).later hlW);have HCW := zh ((HCM.o.later HLA.o).later hlW);have HRBW := zC hlW HRB;have HOB := zh HCW.o.ob;have HLW := zh hlW;clear hlW;refine tU 0 32 (v := ?_) rfl rfl (fun x hx => ?_) ?_;rotate_left
  ·go_simp;first|done|with_reducible rfl
  simp only [Act.put, nA, nB, nC];refine tU 1 33 (v := ?_) rfl rfl (fun x hx => ?_) ?_;rotate_left
  ·have hxo := (hx.block _ (Zc HOB.o)).trans HOB.o; have o0 := cz5 hxo; have fo0 := fz hxo; have hxr := (hx.block _ (Zc HRBW.o)).trans HRBW.o; have r0 := cz9 hxr; have fr0 := fz hxr; go_simp; first|done|with_reducible rfl
  simp only [Act.put, nA, nB, nC];refine tU 2 34 (v := ?_) rfl rfl (fun x hx => ?_) ?_;rotate_left
  ·go_simp;first|done|with_reducible rfl
  simp only [Act.put, nA, nB, nC];refine tU 3 35 (v := ?_) rfl rfl (fun x hx => ?_) ?_;rotate_left
  ·have hxo := (hx.block _ (Zc HOB.o)).trans HOB.o; have o0 := cz5 hxo; have fo0 := fz hxo; have hxr := (hx.block _ (Zc HRBW.o)).trans HRBW.o; have r0 := cz9 hxr; have fr0 := fz hxr; go_simp; first|done|with_reducible rfl
  simp only [Act.put, nA, nB, nC];refine tU 4 36 (v := ?_) rfl rfl (fun x hx => ?_) ?_;rotate_left
  ·go_simp;first|done|with_reducible rfl
  simp only [Act.put, nA, nB, nC];refine tU 5 37 (v := ?_) rfl rfl (fun x hx => ?_) ?_;rotate_left
  ·have hxo := (hx.block _ (Zc HOB.o)).trans HOB.o; have o0 := cz5 hxo; have fo0 := fz hxo; have hxr := (hx.block _ (Zc HRBW.o)).trans HRBW.o; have r0 := cz9 hxr; have fr0 := fz hxr; go_simp; first|done|with_reducible rfl
  simp only [Act.put, nA, nB, nC];refine tU 6 38 (v := ?_) rfl rfl (fun x hx => ?_) ?_;rotate_left
  ·go_simp;first|done|with_reducible rfl
  simp only [Act.put, nA, nB, nC];refine tU 7 39 (v := ?_) rfl rfl (fun x hx => ?_) ?_;rotate_left
  ·have hxo := (hx.block _ (Zc HOB.o)).trans HOB.o; have o0 := cz5 hxo; have fo0 := fz hxo; have hxr := (hx.block _ (Zc HRBW.o)).trans HRBW.o; have r0 := cz9 hxr; have fr0 := fz hxr; go_simp; first|done|with_reducible rfl
  simp only [Act.put, nA, nB, nC];refine tU 8 40 (v := ?_) rfl rfl (fun x hx => ?_) ?_;rotate_left
  ·go_simp;first|done|with_reducible rfl
  simp only [Act.put, nA, nB, nC];refine tU 9 41 (v := ?_) rfl rfl (fun x hx => ?_) ?_;rotate_left
  ·go_simp;first|done|with_reducible rfl
  simp only [Act.put, nA, nB, nC];refine Zca 10 (by kernel_rfl) rfl rfl ?_;go_wp2_with fail;refine (Zlz CB G (cgA (N + 1) p j).2 W ⟨_, _, _, HIW.o⟩).mono ?_;rintro e w2 ⟨⟨zz, rfl, z0, z1, hzz⟩, rfl⟩;go_wp2_with fail;refine ⟨Za.refl _, ?_⟩;refine tU 11 43 (v := ?_) rfl rfl (fun x hx => ?_) ?_;rotate_left
  ·go_simp;first|done|with_reducible rfl|rw[if_neg (by omega)]|rw[if_pos (by omega)]
  simp only [Act.put, nA, nB, nC];refine Zca 12 (by kernel_rfl) rfl rfl ?_;go_wp2_with fail;refine ⟨(Za.refl _).alloc _, ?_⟩;refine Zag [_, _, _] (by kernel_rfl) rfl rfl ?_;simp only [List.getElem_toArray, List.getElem_cons_succ, List.getElem_cons_zero];have hX : Za w2 (w2.alloc (.cells #[.string r.name, .int .i64 r.params, .int .i64 (r.slots.length : Nat), .int .i64 zz] TCr)) := (Za.refl _).alloc _;have HX := zh hX;have HROW := zh (HCW.o.rr.keep Zac.is (fun _ h => h) (Zb.later hX));have HEL := zh (show Zaj (fun _ => False) (w2.alloc (.cells #[.string r.name, .int .i64 r.params, .int .i64 (r.slots.length : Nat), .int .i64 zz] TCr)) ⟨r.name, r.params, r.slots.length, zz⟩ [.string r.name, .int .i64 r.params, .int .i64 (r.slots.length : Nat), .int .i64 zz] from ⟨rfl, HNM.o, HPM.o, by show Zi (r.slots.length : Int); unfold Zi; omega, by show Zi zz; unfold Zi; omega⟩);have HNO : Hd (∀ y, (fun _ : Nat => False) y → ¬ H y) := zh (fun _ h => h.elim);have HZZ := zh hzz;have hj12 : crs.length ≤ 12 := by have := HCL.o; omega
  clear hX hzz;refine Zbd Zac rfl _ _ 28 rfl TCr iC (.agg #[.string ⟨#[]⟩, .int .i64 0, .int .i64 0, .int .i64 0]) 40 Tryz.underlying28 hiC hz0 hz1 hz2 rfl rfl HROW.o ⟨w2.heap.size, 0, none⟩ 1 rfl ⟨r.name, r.params, r.slots.length, zz⟩ [.string r.name, .int .i64 r.params, .int .i64 (r.slots.length : Nat), .int .i64 zz] (Zgi w2 [.string r.name, .int .i64 r.params, .int .i64 (r.slots.length : Nat), .int .i64 zz] TCr) (by intro u hu; simp at hu; rcases hu with rfl | rfl | rfl | rfl <;> rfl) HEL.o HNO.o (by omega) (by decide) ?_;intro v2 Y hrow hkp hb0;have HC5 := zh (HCW.o.push HX.o hrow hkp hb0);have HKP := zh (show ∀ K : Nat → Prop, (∀ b, K b → ¬ H b ∧ b ≠ OB) → Zb K _ _ from fun K hK => CmS.push_keep (OB := OB) hkp hK v2);have hYB : Y.heap[OB]? = some (.cells #[.slice Ar crs.length cr, ev, gv, .int .i64 p.main, .slice none 0 0] Zdc (0, 0)) := (hkp.same OB (fun hh => (HCW.o.d OB (.inl hh)).2.2.1 rfl) (Nat.lt_of_lt_of_le (Zc HOB.o) HX.o.size)).trans ((HX.o.block OB (Zc HOB.o)).trans HOB.o);have y0 := cz5 hYB;have fy0 := fz hYB;obtain ⟨A2v, c2v, hv2, -⟩ := id hrow;rw [show (crs ++ [(⟨r.name, r.params, r.slots.length, zz⟩ : Zar)]).length = crs.length + 1 by simp] at hv2;subst hv2;clear hrow hkp hb0 hYB;obtain ⟨w5, hw5⟩ : ∃ z, Y.setCell ⟨OB, 0, none⟩ (.slice A2v (crs.length + 1) c2v) = z := ⟨_, rfl⟩;rw [hw5] at HC5 HKP;have HK5 := zh (show ∀ K : Nat → Prop, (∀ b, K b → ¬ H b ∧ b ≠ OB) → Zb K w2 w5 from fun K hK => (Zb.later (F := K) HX.o).trans (HKP.o K hK))
  have HNR : Hd (¬ H RB ∧ RB ≠ OB) := zh ⟨fun hh => by have := (HCM.o.d RB (.inl hh)).2.1; have := HRS.o; omega, fun e => by have := Zc HCM.o.ob; have := HRS.o; omega⟩;have HRB5 := zh (((HK5.o (fun b => b = RB) (fun b hb => hb ▸ HNR.o)).same RB rfl (Zc HRBW.o)).trans HRBW.o);have HIM5 := zh (HIW.o.keep (HK5.o (fun b => b = CB ∨ G b) (fun b hb => ⟨fun hh => (HCW.o.d b (.inl hh)).2.2.2 hb, (HCW.o.dC b hb).2.2⟩)));have r0 := cz9 HRB5.o;have fr0 := fz HRB5.o;go_upto_region 9 with (fail)
  try rw [hw5]
  have hlb : Za w5 (w5.alloc (.cells #[.int .i64 r.body.kind, .int .i64 r.body.op, .int .i64 r.body.aB, .int .i64 r.body.line, .string r.body.text, .slice Ab r.body.kids.length kb] 68)) := (Za.refl _).alloc _;have hbb := heap_alloc_new w5 (.cells #[.int .i64 r.body.kind, .int .i64 r.body.op, .int .i64 r.body.aB, .int .i64 r.body.line, .string r.body.text, .slice Ab r.body.kids.length kb] 68);obtain ⟨w6, hw6⟩ : ∃ z, w5.alloc (.cells #[.int .i64 r.body.kind, .int .i64 r.body.op, .int .i64 r.body.aB, .int .i64 r.body.line, .string r.body.text, .slice Ab r.body.kids.length kb] 68) = z := ⟨_, rfl⟩;rw [hw6] at hlb hbb;have HLB := zh hlb;have HW6 := zh hw6;have HBS : Hd (∀ b, (b = CB ∨ G b) → b < w5.heap.size) := zh (fun b hb => (HC5.o.dC b hb).2.1);obtain ⟨BB, hBB⟩ : ∃ z, z = w5.heap.size := ⟨_, rfl⟩;have HBBS := zh hBB;have HBB := zh hbb;clear hlb hbb hw6;go_upto_region 10 with (fail);rw [HW6.o];rw [← hBB] at HBB ⊢;clear hBB hw5 y0 fy0 r0 fr0;have HC6 := zh (HC5.o.later HLB.o);have HI6 := zh (HIM5.o.later HLB.o);have HKF := zh (Zri HL0.o (show Za w0 w6 from HC6.o.bel) (by have h1 := HLA.o.size; have h2 := HLW.o.size; have h4 := (HK5.o (fun _ => False) (fun _ h => h.elim)).size; have h5 := HLB.o.size; omega) hflt.o);have HNB : Hd (¬ (BB = CB ∨ G BB)) := zh (fun hb => by have := HBS.o BB hb; have := HBBS.o; omega);have HP : Hd (Zbm N w6 CB G (cgA (N + 1) p j).2 none (.pointer none) 0 (fun _ => False) [] (fun b => F b ∨ b = BB) r.body BB 0 Ab kb (0 + 1)) := zh (by
   have h6 := HBB.o;have h0 := HC6.o.bel.size;obtain ⟨c0, c1, c2, c3, c4, c5⟩ := cz6 h6;have fc0 := fz h6;refine ⟨KS.start ⟨_, _, _, HI6.o⟩ (fun x hx => by cases hx), ⟨.inr rfl, Zc HBB.o, c0, c1, c2, c3, c4, c5, HCV.o.n0, HCV.o.n1, HCV.o.n2, HCV.o.n3, HCV.o.tx, HCV.o.kids.keep (Zad N) (fun b hb => .inl hb) HKF.o⟩, HOK.o.1, fun b hb => ?_, fun b hb => ?_, (by have := HOK.o.2.1; omega), (fun x hx => by cases hx), (by have := HOK.o.2.2.1; simp; omega)⟩
   ·have key : ¬ (b = CB ∨ G b) := by
     rcases hb with hb | rfl
     ·intro hc;have h1 := (HC6.o.dC b hc).1;have h2 := hflt.o b hb
      omega
     ·exact HNB.o
    exact ⟨fun e => key (.inl e), fun e => key (.inr e), fun e => by simp at e⟩
   ·rcases hb with hb | rfl
    ·have := hflt.o b hb; omega
    ·exact Zc HBB.o)
  go_wp2_with fail;refine (Zcs N (Zl8 N) w6 CB G (cgA (N + 1) p j).2 none (.pointer none) 0 (fun _ => False) [] (fun b => F b ∨ b = BB) r.body BB 0 Ab kb 0 HP).mono ?_;rintro e w7 ⟨z7, G7, E7, rfl, zl7, zu7, hz7, hks⟩;have HTN := zh (show Tn (fun b => b = CB ∨ G b) w6 w7 from hks.tn.mono fun b _ hb => by
   rcases hb with hb | hb | hb
   ·exact .inl hb
   ·exact .inr hb
   ·simp at hb)
  have HGG := zh hks.gG;have HM7 := zh hks.im;have HZ7 := zh hz7;clear hks hz7;obtain ⟨L7, hL7⟩ : ∃ z, z = (cgA (N + 1) p j).2 ++ (Zg 13 0 r.body.line :: ((cg (N + 1) r.body (0 + 1) none ((cgA (N + 1) p j).2.length + 1)).1 ++ [Zg 14 0 r.body.line])) := ⟨_, rfl⟩;rw [← hL7] at HM7;have HL7 := zh hL7;have hl7 : L7.length = (cgA (N + 1) p j).2.length + ((cg (N + 1) r.body 1 none ((cgA (N + 1) p j).2.length + 1)).1.length + 2) := by rw [hL7]; simp
  have HL7L := zh hl7;clear hL7 hl7;have HC7 := zh (HC6.o.coder (C' := fun b => b = CB ∨ G7 b) HTN.o (fun b hb => by
   rcases hb with hb | hb
   ·exact .inl (.inl hb)
   ·exact (HGG.o b hb).imp .inr id) (fun b hb => by
   rcases hb with rfl | hb
   ·exact Nat.lt_of_lt_of_le (HC6.o.dC _ (.inl rfl)).2.1 HTN.o.size
   ·obtain ⟨_, _, _, hi⟩ := HM7.o;exact hi.lt b hb))
  have HB7 := zh (HTN.o.has HBB.o HNB.o);have HNB7 : Hd (¬ (BB = CB ∨ G7 BB)) := zh (fun hb => by
   rcases hb with hb | hb
   ·exact HNB.o (.inl hb)
   ·rcases HGG.o BB hb with h | h
    ·exact HNB.o (.inr h)
    ·have := Zc HBB.o; omega)
  go_wp2_with fail;refine (Zbp CB G7 L7 (cgA (N + 1) p j).2.length z7 w7 HM7.o (fun h => ⟨HZ7.o (by have := HL7L.o; omega), by have := HL7L.o; omega⟩)).mono ?_;rintro e w8 ⟨rfl, him8, ht8⟩;have HM8 := zh him8;have HT8 := zh ht8;have HC8 := zh (HC7.o.coder (C' := fun b => b = CB ∨ G7 b) ht8 (fun _ h => .inl h) (fun b hb => Nat.lt_of_lt_of_le (HC7.o.dC b hb).2.1 ht8.size));have HB8 := zh (ht8.has HB7.o HNB7.o);have hpt := Zav (LL := L7) (A := (cgA (N + 1) p j).2) (B := (cg (N + 1) r.body (0 + 1) none ((cgA (N + 1) p j).2.length + 1)).1 ++ [Zg 14 0 r.body.line]) (op := 13) (a0 := 0) (l := r.body.line) (i := (cgA (N + 1) p j).2.length) (k := (cgA (N + 1) p j).2.length + Zaq (cg (N + 1)) r.body 0 none (cgA (N + 1) p j).2.length) HL7.o rfl (by rw [HL7L.o]; rfl);have HPT := zh hpt;clear him8 ht8 hpt;obtain ⟨c0, c1, c2, c3, c4, c5⟩ := cz6 HB8.o;have fc0 := fz HB8.o;go_wp2_with fail;refine (Z2 CB G7 _ 25 0 0 r.body.line ⟨#[]⟩ w8 HM8.o (by unfold Zi; omega) (by unfold Zi; omega) (by unfold Zi; omega) HLN.o (Nat.zero_le _)).mono ?_;rintro e w9 ⟨z9, G9, rfl, _, _, _, him9, hG9, ht9⟩;have HM9 := zh him9;have HC9 := zh (HC8.o.coder (C' := fun b => b = CB ∨ G9 b) ht9 (fun b hb => by
   rcases hb with hb | hb
   ·exact .inl (.inl hb)
   ·exact (hG9 b hb).imp .inr id) (fun b hb => by
   rcases hb with rfl | hb
   ·exact Nat.lt_of_lt_of_le (HC8.o.dC _ (.inl rfl)).2.1 ht9.size
   ·obtain ⟨_, _, _, hi⟩ := him9;exact hi.lt b hb))
  clear him9 hG9 ht9;have tj1 : IntKind.i64.wrap ((j : Int) + 1) = ((j + 1 : Nat) : Int) := by rw [IntWalk.i64_in _ (by omega)]; rfl
  clear c0 fc0 c1 c2 c3 c4 c5;go_wp2_with fail;refine Handed.intro (gk - 1) (by omega) (hJ _ _ _ ⟨j + 1, by omega, FmL.mk' rfl rfl rfl rfl rfl rfl rfl rfl (by show some _ = some _; exact congrArg some (by go_num)), ?_⟩);have hLL : Zei (cgA (N + 1) p j).2.length (L7.length : Int) L7 ++ [Zg 25 0 r.body.line] = (cgA (N + 1) p (j + 1)).2 := by
   rw [HPT.o, HSU.o];simp [bnd]
  obtain ⟨L0', iv', ov', hi9⟩ := HM9.o;refine ⟨G9, _, _, _, iv', L0', ov', HC9.o, hLL ▸ hi9, by rw [List.length_append, HCL.o]; rfl, fun hle => ?_⟩;have hlen : (cgA (N + 1) p (j + 1)).2.length = L7.length + 1 := by rw [← hLL]; simp [Zp]
  have hle0 : (cgA (N + 1) p j).2.length ≤ 60000 := by have := HL7L.o; omega
  rw [HCR.o hle0, HZZ.o hle0, HSU.o]
 ·obtain rfl : j = p.routines.length := by omega
  go_wp2_with fail;exact ⟨FmX.mk' rfl rfl rfl rfl rfl rfl, G, H, crs, rv, iv, L0, ov, HCM.o, HIM.o, HCL.o, HCR.o⟩
theorem Zce {α : Type} {p : α → Bool} {l : List α} {j : Nat} (hj : j < l.length) (h : p l[j] = false) : l.all p = false := by
 rw [List.all_eq_false];exact ⟨_, List.getElem_mem hj, by rw [h]; decide⟩
theorem Zik {α : Type} {p : α → Bool} {l : List α} {j : Nat} (h : ∀ k (hk : k < l.length), k < j → p l[k] = true) (hj : ∀ hk : j < l.length, p l[j] = true) : ∀ k (hk : k < l.length), k < j + 1 → p l[k] = true := fun k hk h1 => by
 rcases Nat.lt_or_ge k j with h2 | h2
 ·exact h k hk h2
 ·obtain rfl : k = j := by omega
  exact hj hk
theorem Zmv {α : Type} {p : α → Bool} {l : List α} (h : ∀ k (hk : k < l.length), p l[k] = true) : l.all p = true := by
 rw [List.all_eq_true];intro x hx;obtain ⟨k, hk, rfl⟩ := List.getElem_of_mem hx;exact h k hk
theorem Zo1 {n : Nat} : decide (n ≤ 6) = !decide ((6 : Int) < (n : Int)) := by
 by_cases h : n ≤ 6
 ·rw [nT h, nU (by omega)]; rfl
 ·rw [nU h, nT (by omega)]; rfl
theorem Zn9 {n : Int} : decide (0 ≤ n) = !decide (n < 0) := by
 by_cases h : 0 ≤ n
 ·rw [nT h, nU (by omega)]; rfl
 ·rw [nU h, nT (by omega)]; rfl
theorem Zil {x : World} {b : Nat} {v0 v1 v2 : Value} {t : TypeId} (h : x.heap[b]? = some (.cells #[v0, v1, v2] t (0, 0))) : x.cell? ⟨b, 0, none⟩ = some v0 ∧ x.cell? ⟨b, 1, none⟩ = some v1 ∧ x.cell? ⟨b, 2, none⟩ = some v2 :=
 ⟨cell_of_row x b 0 _ _ _ h, cell_of_row x b 1 _ _ _ h, cell_of_row x b 2 _ _ _ h⟩
theorem Zi0 (l : List Zam) (v : Value) (F : Nat → Prop) (w : World) (hr : Z5 Zao 3 F w l v) (ht : Spc w) : Calls Tryz.prog 74 #[v] w fun e w' => e = .returned (.bool (l.all Zeu && decide (l.length ≤ 8))) ∧ Below w.heap.size w w' := by
 obtain ⟨A, c, rfl, hc, hcm, hel⟩ := hr;unfold maxLen at hcm;have HEL := zh hel;obtain ⟨R, hR⟩ : ∃ R, (l.all Zeu && decide (l.length ≤ 8)) = R := ⟨_, rfl⟩;rw [hR];have HR := zh hR;have HT := zh ht;clear hR hel ht;go_enter Tryz.func74, Tryz.ntmps74;go_wp2_with fail
 go_loopw [7] (fun i wr => ∃ j : Nat, i = .int .i64 j ∧ j ≤ l.length ∧ Hd (∀ k (h : k < l.length), k < j → Zeu l[k] = true) ∧ Below w.heap.size w wr) (fun i _ => l.length - (intOf i).toNat)
 case atStart => exact ⟨0, rfl, Nat.zero_le _, zh (fun k _ h => by omega), Below.refl _ _⟩
 case round =>
  obtain ⟨j, rfl, hj, HD, hbel⟩ := hrel;have hsz := hbel.size
  by_cases hlt : j < l.length
  ·obtain ⟨b, o, cs, rfl, hF, hbl, hE, hcell⟩ := HEL.o j hlt;have hE2 := Z7.keep (G := F) hE (fun _ h => h) (Zb.later hbel);obtain ⟨vf, rfl, hnm, hfl, hln⟩ := hE;obtain ⟨vf', e, hnm', hfl', hln'⟩ := hE2;simp only [List.cons.injEq, true_and, and_true] at e;subst e;obtain ⟨AF, cF, rfl, hfc, hfm, _⟩ := id hfl;unfold maxLen at hfm;have t1 : decide ((j : Int) < l.length) = true := nT (by omega);have hlt' : (j : Int) < l.length := by omega
   have e0 := (hbel.cell (p := ⟨b, o + j * 3 + 0, none⟩) hbl).trans (hcell 0 _ rfl);have e1 := (hbel.cell (p := ⟨b, o + j * 3 + 1, none⟩) hbl).trans (hcell 1 _ rfl);have e2 := (hbel.cell (p := ⟨b, o + j * 3 + 2, none⟩) hbl).trans (hcell 2 _ rfl);simp only [Nat.add_zero] at e0;have HNO := zh (fun h => Zce (p := Zeu) hlt h);have HYES := zh (fun (h : Zeu l[j] = true) => Zik HD.o (fun _ => h));have HREC := zh (show ∀ r, l[j] = r → Zeu r = (Zba r.name && (decide (r.fields.length ≤ 6) && (r.fields.all Zba && (!twB r.fields && decide (0 ≤ r.line))))) from fun _ _ => rfl);obtain ⟨r, hrj⟩ : ∃ r, l[j] = r := ⟨_, rfl⟩;have hrec := HREC.o r hrj;rw [hrj] at e0 e1 e2 HNO HYES hnm hfl' hfc;clear hcell hnm' hfl hln hln' hrj HREC hfm;have hx := hbel.alloc hsz (.cells #[.string r.name, .slice AF r.fields.length cF, .int .i64 r.line] 101);have hD := heap_alloc_new wr (.cells #[.string r.name, .slice AF r.fields.length cF, .int .i64 r.line] 101);obtain ⟨x, hxw⟩ : ∃ x, x = wr.alloc (.cells #[.string r.name, .slice AF r.fields.length cF, .int .i64 r.line] 101) := ⟨_, rfl⟩;rw [← hxw] at hx hD;have HX := zh hx;have HDB := zh hD;have HFL := zh (hfl'.later Zt (show Za wr x by rw [hxw]; exact (Za.refl _).alloc _));have HN := zh (Zc4 r.name x hnm (HT.o.below hx));obtain ⟨D, hDD⟩ : ∃ D, wr.heap.size = D := ⟨_, rfl⟩;rw [hDD] at HDB;obtain ⟨n0, hn0⟩ : ∃ q : Bool, Zba r.name = q := ⟨_, rfl⟩;obtain ⟨n1, hn1⟩ : ∃ q : Bool, decide ((6 : Int) < (r.fields.length : Int)) = q := ⟨_, rfl⟩
   obtain ⟨n2, hn2⟩ : ∃ q : Bool, r.fields.all Zba = q := ⟨_, rfl⟩;obtain ⟨n3, hn3⟩ : ∃ q : Bool, twB r.fields = q := ⟨_, rfl⟩;obtain ⟨n4, hn4⟩ : ∃ q : Bool, decide (r.line < 0) = q := ⟨_, rfl⟩;rw [hn0, hn2, hn3, show decide (r.fields.length ≤ 6) = !n1 by rw [← hn1]; exact Zo1, show decide (0 ≤ r.line) = !n4 by rw [← hn4]; exact Zn9] at hrec;rw [hn0] at HN;have HREC := zh hrec;clear hx hD hnm hfl' hrec;go_upto_region 4 with (fail);rw [← hxw]
   try rw [hDD]
   clear e0 e1 e2 hxw hDD;obtain ⟨d0, d1, d2⟩ := Zil HDB.o;go_wp2_with fail;refine HN.o.mono ?_;rintro e x1 ⟨rfl, hb1⟩;have HX1 := zh (HX.o.trans (Below.mono hb1 HX.o.size));have HD1 := zC hb1 HDB;have HF1 := zh (HFL.o.later Zt hb1);clear hb1 d0 d1 d2;obtain ⟨d0, d1, d2⟩ := Zil HD1.o
   cases n0
   ·have hR0 : R = false := by rw [← HR.o, HNO.o (by rw [HREC.o]; rfl)]; rfl
    subst hR0;go_wp2_with fail;go_ret;exact ⟨rfl, HX1.o⟩
   cases n1
   rotate_left
   ·have hR0 : R = false := by rw [← HR.o, HNO.o (by rw [HREC.o]; rfl)]; rfl
    subst hR0;go_wp2_with fail;go_ret;exact ⟨rfl, HX1.o⟩
   have HA := zh (Zic r.fields _ F x1 HF1.o (HT.o.below HX1.o));rw [hn2] at HA;go_wp2_with fail;refine HA.o.mono ?_;rintro e x2 ⟨rfl, hb2⟩;have HX2 := zh (HX1.o.trans (Below.mono hb2 HX1.o.size));have HD2 := zC hb2 HD1;have HF2 := zh (HF1.o.later Zt hb2);clear hb2 d0 d1 d2 HA;obtain ⟨d0, d1, d2⟩ := Zil HD2.o
   cases n2
   ·have hR0 : R = false := by rw [← HR.o, HNO.o (by rw [HREC.o]; rfl)]; rfl
    subst hR0;go_wp2_with fail;go_ret;exact ⟨rfl, HX2.o⟩
   have HA := zh (Zmo r.fields _ F x2 HF2.o);rw [hn3] at HA;go_wp2_with fail;refine HA.o.mono ?_;rintro e x3 ⟨rfl, hb3⟩;have HX3 := zh (HX2.o.trans (Below.mono hb3 HX2.o.size));have HD3 := zC hb3 HD2;clear hb3 d0 d1 d2 HA;obtain ⟨d0, d1, d2⟩ := Zil HD3.o
   cases n3
   rotate_left
   ·have hR0 : R = false := by rw [← HR.o, HNO.o (by rw [HREC.o]; rfl)]; rfl
    subst hR0;go_wp2_with fail;go_ret;exact ⟨rfl, HX3.o⟩
   cases n4
   rotate_left
   ·have hR0 : R = false := by rw [← HR.o, HNO.o (by rw [HREC.o]; rfl)]; rfl
    subst hR0;go_wp2_with fail;go_ret;exact ⟨rfl, HX3.o⟩
   have HD4 := zh (HYES.o (by rw [HREC.o]; rfl));have hbel3 := HX3.o;go_wp2_with fail
   go_roundw
   case rel => exact ⟨j + 1, by go_num, by omega, HD4, hbel3⟩
   case measure => simp [intOf]; omega
  ·have t1 : decide ((j : Int) < l.length) = false := nU (by omega);have hR0 : R = decide ((l.length : Int) ≤ 8) := by rw [← HR.o, Zmv (fun k hk => HD.o k hk (by omega)), Bool.true_and]; exact decide_eq_decide.2 (by omega)
   subst hR0;go_wp2_with fail;go_ret;exact ⟨rfl, hbel⟩
theorem Zr6 {a : Act} (N : Nat) (F : Nat → Prop) (w : World) (p : Zu) (A1 A2 A3 : Option Addr) (k1 k2 k3 : Nat) (PB : Nat) (HE : Hd (PgB N F w p A1 A2 A3 k1 k2 k3 PB)) (HF : Hd (FpX PB a)) :
  ipHd.wp Tryz.prog (Zhx fun a' x => FpA PB (!(ph p)) a' ∧ Za w x) a w := by
 obtain ⟨_, _, e1, hkc1, hkm1, _⟩ := HE.o.pg.ro;obtain ⟨_, _, e2, hkc2, hkm2, _⟩ := HE.o.pg.re;obtain ⟨_, _, e3, hkc3, hkm3, _⟩ := HE.o.pg.gl;have h64 := HE.o.pg.m;have hr1 : (p.routines.length : Int) ≤ 9223372036854775807 := by unfold maxLen at hkm1; cases e1; omega
 have hr2 : (p.aA.length : Int) ≤ 9223372036854775807 := by unfold maxLen at hkm2; cases e2; omega
 have hr3 : (p.globals.length : Int) ≤ 9223372036854775807 := by unfold maxLen at hkm3; cases e3; omega
 clear e1 e2 e3 hkc1 hkc2 hkc3 hkm1 hkm2 hkm3;obtain ⟨b1, hb1⟩ : ∃ q : Bool, decide ((p.routines.length : Int) < 1) = q := ⟨_, rfl⟩;obtain ⟨b2, hb2⟩ : ∃ q : Bool, decide ((12 : Int) < (p.routines.length : Int)) = q := ⟨_, rfl⟩;obtain ⟨b3, hb3⟩ : ∃ q : Bool, decide ((12 : Int) < (p.globals.length : Int)) = q := ⟨_, rfl⟩;obtain ⟨q1, hq1⟩ : ∃ q : Bool, (p.aA.all Zeu && decide (p.aA.length ≤ 8)) = q := ⟨_, rfl⟩;obtain ⟨q2, hq2⟩ : ∃ q : Bool, p.globals.all Zba = q := ⟨_, rfl⟩;obtain ⟨b4, hb4⟩ : ∃ q : Bool, decide (p.main < 0) = q := ⟨_, rfl⟩;obtain ⟨b5, hb5⟩ : ∃ q : Bool, decide ((p.routines.length : Int) ≤ p.main) = q := ⟨_, rfl⟩;obtain ⟨q3, hq3⟩ : ∃ q : Bool, ((p.routines.map (·.params)).getD p.main.toNat 1 == 0) = q := ⟨_, rfl⟩;have HD := zh (show ph p = (!b1 && (!b2 && (!b3 && (q1 && (q2 && (!b4 && (!b5 && q3))))))) by
  unfold ph;rw [hq1, hq2, hq3, ← hb1, ← hb2, ← hb3, ← hb4, ← hb5];rw [Bool.eq_iff_iff];simp only [Bool.and_eq_true, nJ, Bool.not_eq_true', nI, Int.not_lt, Int.not_le]
  constructor <;> (rintro ⟨a1, a2, a3, a4, a5, a6, a7, a8⟩; exact ⟨by omega, by omega, by omega, a4, a5, by omega, by omega, a8⟩))
 have HQ1 := zh hq1;have HQ2 := zh hq2;have HQ3 := zh hq3;clear hq1 hq2 hq3;obtain ⟨g0, g1, g2, g3⟩ := cz4 HE.o.pb;have fg0 := fz HE.o.pb;obtain ⟨fr, rfl⟩ := HF.o.opn;clear HF
 conv => arg 2; whnf
 cases b1 with
 | true => (go_wp2_with fail; rw [HD.o]; exact ⟨FpA.mk' rfl rfl rfl rfl, Za.refl _⟩)
 | false =>
 cases b2 with
 | true => (go_wp2_with fail; rw [HD.o]; exact ⟨FpA.mk' rfl rfl rfl rfl, Za.refl _⟩)
 | false =>
 cases b3 with
 | true => (go_wp2_with fail; rw [HD.o]; exact ⟨FpA.mk' rfl rfl rfl rfl, Za.refl _⟩)
 | false =>
 go_wp2_with fail;refine (Zi0 p.aA _ F _ HE.o.pg.re HE.o.sp).mono ?_;rintro e w2 ⟨rfl, hl2⟩;rw [HQ1.o];have HL2 := zh (show Za w w2 from hl2);have HE2 := zh (HE.o.later hl2);clear hl2;clear g0 g1 g2 g3 fg0;obtain ⟨g0, g1, g2, g3⟩ := cz4 HE2.o.pb;have fg0 := fz HE2.o.pb
 cases q1 with
 | false => (go_wp2_with fail; rw [HD.o]; exact ⟨FpA.mk' rfl rfl rfl rfl, HL2.o⟩)
 | true =>
 go_wp2_with fail;refine (Zic p.globals _ F _ HE2.o.pg.gl HE2.o.sp).mono ?_;rintro e w3 ⟨rfl, hl3⟩;rw [HQ2.o];have HL3 := zh (Za.trans HL2.o hl3);have HE3 := zh (HE2.o.later hl3);clear hl3;clear g0 g1 g2 g3 fg0;obtain ⟨g0, g1, g2, g3⟩ := cz4 HE3.o.pb;have fg0 := fz HE3.o.pb
 cases q2 with
 | false => (go_wp2_with fail; rw [HD.o]; exact ⟨FpA.mk' rfl rfl rfl rfl, HL3.o⟩)
 | true =>
 cases b4 with
 | true => (go_wp2_with fail; rw [HD.o]; exact ⟨FpA.mk' rfl rfl rfl rfl, HL3.o⟩)
 | false =>
 cases b5 with
 | true => (go_wp2_with fail; rw [HD.o]; exact ⟨FpA.mk' rfl rfl rfl rfl, HL3.o⟩)
 | false =>
 have hm0 : 0 ≤ p.main := by have := of_decide_eq_false hb4; omega
 have hm1 : p.main < (p.routines.length : Int) := by have := of_decide_eq_false hb5; omega
 obtain ⟨mi, hmi⟩ : ∃ z : Nat, p.main = (z : Int) := ⟨p.main.toNat, by omega⟩;have hml : mi < p.routines.length := by omega
 obtain ⟨_, _, eA, _, _, hel⟩ := HE3.o.pg.ro;cases eA;obtain ⟨rb, ro, cs, rfl, hF, hb, hE, hc⟩ := hel mi hml;obtain ⟨vs, vk, rfl, -⟩ := hE;have e1 := hc 1 _ rfl;have hq3 := HQ3.o;rw [hmi, Int.toNat_natCast, List.getD_eq_getElem?_getD, List.getElem?_map, List.getElem?_eq_getElem hml] at hq3;simp only [Option.map_some, Option.getD_some] at hq3;have hbn : (p.routines[mi].params != 0) = !q3 := by rw [← hq3]; rfl
 obtain ⟨pm, hpm⟩ : ∃ z, z = p.routines[mi].params := ⟨_, rfl⟩;rw [← hpm] at e1 hbn;clear hq3 hpm hel hc hb4 hb5;rw [hmi] at g3 hm0 hm1;have f4 : decide ((mi : Int) < 0) = false := nU (by omega);have f5 : decide ((p.routines.length : Int) ≤ (mi : Int)) = false := nU (by omega);have f6 : decide (p.routines.length ≤ mi) = false := nU (by omega);have HMI := zh hmi;clear hmi
 cases q3 <;> (go_wp2_with fail; rw [HD.o]; exact ⟨FpA.mk' rfl rfl rfl rfl, HL3.o⟩)
def slB (s : ByteArray) : Bool := !s.toList.isEmpty && !Zba s
theorem Zr7 (s : ByteArray) (w : World) (hs : s.size ≤ maxLen) (ht : Spc w) : Calls Tryz.prog 78 #[.string s] w fun e w' => e = .returned (.bool (slB s)) ∧ Below w.heap.size w w' := by
 obtain ⟨b, hb⟩ : ∃ q : Bool, s.toList.isEmpty = q := ⟨_, rfl⟩;have hbn : (s.toList != []) = !b := by rw [← hb]; cases s.toList <;> rfl
 have HS := zh (show slB s = (!b && !Zba s) by unfold slB; rw [hb]);rw [HS.o];clear HS;have HC := zh (Zc4 s w hs ht)
 cases b with
 | true =>
  go_enter Tryz.func78, Tryz.ntmps78;go_wp2_with fail;go_ret;exact ⟨rfl, Below.refl _ _⟩
 | false =>
  obtain ⟨q, hq⟩ : ∃ z, z = Zba s := ⟨_, rfl⟩;rw [← hq] at HC ⊢;clear hq;go_enter Tryz.func78, Tryz.ntmps78;go_wp2_with fail;refine HC.o.mono ?_;rintro e w2 ⟨rfl, hl⟩;have HL := zh hl;clear hl
  cases q <;> (go_wp2_with fail; go_ret; exact ⟨rfl, HL.o⟩)
theorem Zqg (l : List ByteArray) (v : Value) (F : Nat → Prop) (w : World) (hr : Z5 Zbe 1 F w l v) (ht : Spc w) : Calls Tryz.prog 135 #[v, .func (Fn.func 78) #[] #[]] w fun e w' => (∃ z : Int, e = .returned (.int .i64 z) ∧ (decide (0 ≤ z)) = l.any slB) ∧ Below w.heap.size w w' := by
 obtain ⟨A, k, rfl, hkc, hkm, -⟩ := id hr;have hks1 : (l.length : Int) ≤ 9223372036854775807 := by unfold maxLen at hkm; omega
 have HR := zh hr;have HT := zh ht;clear hr ht hkc hkm;go_enter Tryz.func135, Tryz.ntmps135;go_wp2_with fail
 go_loopw [5, 8] (fun _ iv wr => ∃ j : Nat, j ≤ l.length ∧ iv = .int .i64 j ∧ Hd (∀ i (h : i < l.length), i < j → slB l[i] = false) ∧ Za w wr) (fun _ iv _ => l.length - (intOf iv).toNat)
 case atStart => exact ⟨0, Nat.zero_le _, rfl, zh (fun i _ h => by omega), Za.refl _⟩
 case round =>
  obtain ⟨j, hj, rfl, HJ, hl⟩ := hrel;have HL := zh hl;have HR2 := zh (HR.o.keep Zt (fun _ h => h) (Zb.later hl));have HT2 := zh (HT.o.below hl);clear hl
  by_cases hlt : j < l.length
  ·have hlt' : (j : Int) < (l.length : Int) := by omega
   obtain ⟨_, _, e, _, _, hel⟩ := HR2.o;cases e;obtain ⟨b, o, cs, rfl, hF, hb, ⟨rfl, hsz⟩, hc⟩ := hel j hlt;have e0 := hc 0 _ rfl;simp only [Nat.mul_one, Nat.add_zero] at e0;obtain ⟨s, hs⟩ : ∃ z, z = l[j] := ⟨_, rfl⟩;rw [← hs] at e0 hsz;have HSV := zh hs;have HSZ := zh hsz;clear hs hsz hc hel;go_wp2_with fail;refine (Zr7 s _ HSZ.o HT2.o).mono ?_;rintro e w2 ⟨rfl, hl2⟩;have HL2 := zh (HL.o.trans hl2);clear hl2;obtain ⟨q, hq⟩ : ∃ z, z = slB s := ⟨_, rfl⟩;rw [← hq];have HQ := zh hq;clear hq e0
   cases q with
   | true =>
    go_wp2_with fail;go_ret;refine ⟨⟨_, rfl, ?_⟩, HL2.o⟩;rw [show l.any slB = true from List.any_eq_true.2 ⟨l[j], List.getElem_mem hlt, by rw [← HSV.o, ← HQ.o]⟩];exact nT (by omega)
   | false =>
    go_wp2_with fail
    go_roundw
    case rel => exact ⟨j + 1, by omega, by go_num, zh (fun i hi h => by
     by_cases h2 : i < j
     ·exact HJ.o i hi h2
     ·obtain rfl : i = j := by omega
      rw [← HSV.o, ← HQ.o]), HL2.o⟩
    case measure => simp [intOf]; omega
  ·obtain rfl : j = l.length := by omega
   go_wp2_with fail;go_ret;refine ⟨⟨-1, rfl, ?_⟩, HL.o⟩;rw [show l.any slB = false from by
    rw [← Bool.not_eq_true, List.any_eq_true];rintro ⟨x, hx, hs⟩;obtain ⟨i, hi, rfl⟩ := List.getElem_of_mem hx;rw [HJ.o i hi hi] at hs
    cases hs]
   rfl
theorem Zmx (l : List ByteArray) (v : Value) (F : Nat → Prop) (w : World) (hr : Z5 Zbe 1 F w l v) (ht : Spc w) : Calls Tryz.prog 77 #[v, .func (Fn.func 78) #[] #[]] w fun e w' => e = .returned (.bool (l.any slB)) ∧ Below w.heap.size w w' := by
 have HC := zh (Zqg l v F w hr ht);clear hr ht;go_enter Tryz.func77, Tryz.ntmps77;go_wp2_with fail;refine HC.o.mono ?_;rintro e w2 ⟨⟨z, rfl, hz⟩, hl⟩;have HL := zh hl;have HZ := zh hz;clear hl hz;go_wp2_with fail;go_ret;exact ⟨congrArg (fun b => Ending.returned (.bool b)) HZ.o, HL.o⟩
section
def FpL (PB : Nat) (cn : Nat) (AR : Option Addr) (nr kr j : Nat) (a : Act) : Prop := Fr 123 [(1, .pointer (some ⟨PB, 0, none⟩)), (2, .bool false), (3, .int .i64 (cn : Nat)), (59, .slice AR nr kr), (60, .int .i64 (nr : Nat)), (61, .int .i64 (j : Nat))] a
section
variable {PB : Nat} {cn : Nat} {AR : Option Addr} {nr kr j : Nat} {a : Act}
theorem FpL.opn (h : FpL PB cn AR nr kr j a) : ∃ f : Nat → Value, a = ⟨#[f 0, .pointer (some ⟨PB, 0, none⟩), .bool false, .int .i64 (cn : Nat), f 4, f 5, f 6, f 7, f 8, f 9, f 10, f 11, f 12, f 13, f 14, f 15, f 16, f 17, f 18, f 19, f 20, f 21, f 22, f 23, f 24, f 25, f 26, f 27, f 28, f 29, f 30, f 31, f 32, f 33, f 34, f 35, f 36, f 37, f 38, f 39, f 40, f 41, f 42, f 43, f 44, f 45, f 46, f 47, f 48, f 49, f 50, f 51, f 52, f 53, f 54, f 55, f 56, f 57, f 58, .slice AR nr kr, .int .i64 (nr : Nat), .int .i64 (j : Nat), f 62, f 63, f 64, f 65, f 66, f 67, f 68, f 69, f 70, f 71, f 72, f 73, f 74, f 75, f 76, f 77, f 78, f 79, f 80, f 81, f 82, f 83, f 84, f 85, f 86, f 87, f 88, f 89, f 90, f 91, f 92, f 93, f 94, f 95, f 96, f 97, f 98, f 99, f 100, f 101, f 102, f 103, f 104, f 105, f 106, f 107, f 108, f 109, f 110, f 111, f 112, f 113, f 114, f 115, f 116, f 117, f 118, f 119, f 120, f 121, f 122], []⟩ := by
 obtain ⟨f, e, hf⟩ := Fr.lit h;obtain ⟨h1, h2, h3, h59, h60, h61, -⟩ := h.has;refine ⟨f, e.trans ?_⟩;have k1 := Zf h1 (hf 1 (by omega));have k2 := Zf h2 (hf 2 (by omega));have k3 := Zf h3 (hf 3 (by omega));have k59 := Zf h59 (hf 59 (by omega));have k60 := Zf h60 (hf 60 (by omega));have k61 := Zf h61 (hf 61 (by omega));rw [← k1];rw [← k2];rw [← k3];rw [← k59];rw [← k60];rw [← k61]
 rfl
theorem FpL.mk' {A : Array Value} (hs : A.size = 123) (h1 : A[1]? = some (.pointer (some ⟨PB, 0, none⟩))) (h2 : A[2]? = some (.bool false)) (h3 : A[3]? = some (.int .i64 (cn : Nat))) (h59 : A[59]? = some (.slice AR nr kr)) (h60 : A[60]? = some (.int .i64 (nr : Nat))) (h61 : A[61]? = some (.int .i64 (j : Nat))) : FpL PB cn AR nr kr j ⟨A, []⟩ := ⟨hs, rfl, h1, h2, h3, h59, h60, h61, trivial⟩
end
def FpN (PB : Nat) (cn : Nat) (a : Act) : Prop := Fr 123 [(1, .pointer (some ⟨PB, 0, none⟩)), (2, .bool false), (3, .int .i64 (cn : Nat))] a
section
variable {PB : Nat} {cn : Nat} {a : Act}
theorem FpN.opn (h : FpN PB cn a) : ∃ f : Nat → Value, a = ⟨#[f 0, .pointer (some ⟨PB, 0, none⟩), .bool false, .int .i64 (cn : Nat), f 4, f 5, f 6, f 7, f 8, f 9, f 10, f 11, f 12, f 13, f 14, f 15, f 16, f 17, f 18, f 19, f 20, f 21, f 22, f 23, f 24, f 25, f 26, f 27, f 28, f 29, f 30, f 31, f 32, f 33, f 34, f 35, f 36, f 37, f 38, f 39, f 40, f 41, f 42, f 43, f 44, f 45, f 46, f 47, f 48, f 49, f 50, f 51, f 52, f 53, f 54, f 55, f 56, f 57, f 58, f 59, f 60, f 61, f 62, f 63, f 64, f 65, f 66, f 67, f 68, f 69, f 70, f 71, f 72, f 73, f 74, f 75, f 76, f 77, f 78, f 79, f 80, f 81, f 82, f 83, f 84, f 85, f 86, f 87, f 88, f 89, f 90, f 91, f 92, f 93, f 94, f 95, f 96, f 97, f 98, f 99, f 100, f 101, f 102, f 103, f 104, f 105, f 106, f 107, f 108, f 109, f 110, f 111, f 112, f 113, f 114, f 115, f 116, f 117, f 118, f 119, f 120, f 121, f 122], []⟩ := by
 obtain ⟨f, e, hf⟩ := Fr.lit h;obtain ⟨h1, h2, h3, -⟩ := h.has;refine ⟨f, e.trans ?_⟩;have k1 := Zf h1 (hf 1 (by omega));have k2 := Zf h2 (hf 2 (by omega));have k3 := Zf h3 (hf 3 (by omega));rw [← k1];rw [← k2];rw [← k3]
 rfl
theorem FpN.mk' {A : Array Value} (hs : A.size = 123) (h1 : A[1]? = some (.pointer (some ⟨PB, 0, none⟩))) (h2 : A[2]? = some (.bool false)) (h3 : A[3]? = some (.int .i64 (cn : Nat))) : FpN PB cn ⟨A, []⟩ := ⟨hs, rfl, h1, h2, h3, trivial⟩
end
noncomputable def ipLp : Code := cR (cL (cR (cR (cR (Zch Tryz.f32)))))
theorem Zmy : ∀ (l : List ByteArray), l.all (fun s => s.toList == [] || Zba s) = !(l.any slB)
 | [] => rfl
 | a :: l => by
  rw [List.all_cons, List.any_cons, Zmy l, Bool.not_or]
  congr 1
  unfold slB
  cases a.toList <;> simp
theorem Zi1 : ∀ (l : List Zaw) (j : Nat) (h : j < l.length), Zb4 (l.take (j + 1)) = Zb4 (l.take j) + Z0 l[j].body
 | [], _, h => by simp at h
 | c :: l, 0, _ => by simp [Zb4]
 | c :: l, j + 1, h => by
  simp only [List.take_succ_cons, Zb4, List.getElem_cons_succ];rw [Zi1 l j (by simpa using h)]
  omega
theorem Zi2 : ∀ (l : List Zaw) (j : Nat), Zb4 (l.take j) ≤ Zb4 l
 | [], _ => by simp
 | c :: l, 0 => by simp [Zb4]
 | c :: l, j + 1 => by
  simp only [List.take_succ_cons, Zb4];have := Zi2 l j
  omega
end
section
theorem Zhy : ∀ (l : List Zd) (j : Nat) (h : j < l.length), Zx (l.take (j + 1)) = Zx (l.take j) + Z0 l[j]
 | [], _, h => by simp at h
 | c :: l, 0, _ => by simp [Zx]
 | c :: l, j + 1, h => by
  simp only [List.take_succ_cons, Zx, List.getElem_cons_succ];rw [Zhy l j (by simpa using h)]
  omega
theorem Zcx : ∀ (l : List Zd) (j : Nat), Zx (l.take j) ≤ Zx l
 | [], _ => by simp
 | c :: l, 0 => by simp [Zx]
 | c :: l, j + 1 => by
  simp only [List.take_succ_cons, Zx];have := Zcx l j
  omega
theorem Zl9 : ∀ (l : List Zd) (j : Nat) (h : j < l.length), Ze5 (l.take (j + 1)) = max (Ze5 (l.take j)) (dpC l[j])
 | [], _, h => by simp at h
 | c :: l, 0, _ => by simp [Ze5]
 | c :: l, j + 1, h => by
  simp only [List.take_succ_cons, Ze5, List.getElem_cons_succ];rw [Zl9 l j (by simpa using h), Nat.max_assoc]
mutual
theorem Zj5 : ∀ (c : Zd), dpC c ≤ Z0 c
 | ⟨_, _, _, _, _, kids⟩ => by
  have := Zf8 kids;simp only [dpC, Z0]
  omega
theorem Zf8 : ∀ (l : List Zd), Ze5 l ≤ Zx l
 | [] => by simp [Ze5]
 | c :: l => by
  have := Zj5 c;have := Zf8 l;simp only [Ze5, Zx]
  omega
end
def Zpn (n : Nat) : Prop := ∀ (w : World) (F : Nat → Prop) (c : Zd) (A : Option Addr) (k : Nat), CV n F w c A k → Z0 c ≤ 4194304 → Calls Tryz.prog 79 #[c.val A k] w fun e w' => e = .returned (.int .i64 (Z0 c : Nat)) ∧ Below w.heap.size w w'
theorem Zk4 : ∀ n, Zpn n
 | n => fun w F c A k hv hc => by
  have IH : ∀ n', n = n' + 1 → Zpn n' := fun n' h => by subst h; exact Zk4 n'
  unfold Zd.val;have HV := zh hv;obtain ⟨A', k', ek, hkc, hkm, _⟩ := hv.kids;have hks1 : (c.kids.length : Int) ≤ 9223372036854775807 := by unfold maxLen at hkm; cases ek; omega
  clear ek hkc hkm hv;have hlwb : Za w (w.alloc (.cells #[.int .i64 c.kind, .int .i64 c.op, .int .i64 c.aB, .int .i64 c.line, .string c.text, .slice A c.kids.length k] 68)) := (Za.refl _).alloc _;obtain ⟨wb, hwb⟩ : ∃ z, w.alloc (.cells #[.int .i64 c.kind, .int .i64 c.op, .int .i64 c.aB, .int .i64 c.line, .string c.text, .slice A c.kids.length k] 68) = z := ⟨_, rfl⟩;rw [hwb] at hlwb;have HB := zh (show wb.heap[w.heap.size]? = some (.cells #[.int .i64 c.kind, .int .i64 c.op, .int .i64 c.aB, .int .i64 c.line, .string c.text, .slice A c.kids.length k] 68 (0, 0)) by rw [← hwb]; exact heap_alloc_new _ _);have HLb := zh hlwb;clear hlwb;have hcc := Zq c;have hcn := Zq c;obtain ⟨c0, c1, c2, c3, c4, c5⟩ := cz6 HB.o;have fc0 := fz HB.o;go_enter Tryz.func79, Tryz.ntmps79;go_wp2_with fail
  go_loopw [3, 5, 9] (fun nv _ iv wr => ∃ j : Nat, j ≤ c.kids.length ∧ iv = .int .i64 j ∧ nv = .int .i64 ((Zx (c.kids.take j) + 1) : Nat) ∧ Za wb wr) (fun _ _ iv _ => c.kids.length - (intOf iv).toNat)
  case atStart => exact ⟨0, Nat.zero_le _, rfl, by simp [Zx, Ze5], Za.refl _⟩
  case round =>
   obtain ⟨j, hj, rfl, rfl, hl⟩ := hrel;have HL := zh hl;clear hl;clear c0 c1 c2 c3 c4 c5 fc0;have HBk := zB HL HB;obtain ⟨c0, c1, c2, c3, c4, c5⟩ := cz6 HBk.o;have fc0 := fz HBk.o;clear HBk
   by_cases hlt : j < c.kids.length
   ·obtain ⟨n', rfl⟩ := HV.o.lev hlt;have hlt' : (j : Int) < (c.kids.length : Int) := by omega
    obtain ⟨kb, ko, Bk, q, eA, hca⟩ := CAt.kid HV.o.kids hlt;have hca := hca.keep (fun _ h => h) (Zb.later (HLb.o.trans HL.o));cases eA;have HCA := zh hca;obtain ⟨x, hx⟩ : ∃ z, z = c.kids[j] := ⟨_, rfl⟩;rw [← hx] at hca HCA;have d0 := hca.c0;have d1 := hca.c1;have d2 := hca.c2;have d3 := hca.c3;have d4 := hca.c4;have d5 := hca.c5;clear hca;have hb1 : Z0 x + 1 ≤ Z0 c := by rw [hx]; exact Zkd hlt
    have hb2 := Zj5 x;have hb3 := Zf8 (c.kids.take j);have hb4 := Zcx c.kids j;have HSN := zh (show Zx (c.kids.take (j + 1)) + 1 = (Zx (c.kids.take j) + 1) + Z0 x ∧ Zx (c.kids.take (j + 1)) ≤ Zx c.kids from by rw [hx]; exact ⟨by have := Zhy c.kids j hlt; omega, Zcx c.kids (j + 1)⟩);clear hx;obtain ⟨t, ht⟩ : ∃ z, z = Zx (c.kids.take j) + 1 := ⟨_, rfl⟩;rw [← ht] at HSN;have HT := zh ht;have hsn := HSN.o;have htb : t + Z0 x ≤ 8388608 := by omega
    clear ht;go_wp2_with fail;refine (IH n' rfl _ F x Bk q (HCA.o.cv.keep (fun _ h => h) (Zb.later ((Za.refl _).alloc _))) (by omega)).mono ?_;rintro e w2 ⟨rfl, hb2⟩;have HL2 := zh (HL.o.trans (Za.trans ((Za.refl _).alloc _) hb2));clear hb2;clear d0 d1 d2 d3 d4 d5;have t1 : IntKind.i64.wrap ((t : Int) + (Z0 x : Nat)) = ((t + Z0 x : Nat) : Int) := by rw [IntWalk.i64_in _ (by omega)]; rfl
    clear hsn;go_wp2_with fail
    go_roundw
    case rel => exact ⟨j + 1, by omega, by go_num, by have e := HT.o; rw [HSN.o.1, e]; rw [e] at htb; go_num, HL2.o⟩
    case measure => simp [intOf]; omega
   ·obtain rfl : j = c.kids.length := by omega
    go_wp2_with fail;go_ret;exact ⟨Zae (by simp only [List.take_length, hcc]), HLb.o.trans HL.o⟩
def Zpo (n : Nat) : Prop := ∀ (w : World) (F : Nat → Prop) (c : Zd) (A : Option Addr) (k : Nat), CV n F w c A k → Z0 c ≤ 4194304 → Calls Tryz.prog 70 #[c.val A k] w fun e w' => e = .returned (.int .i64 (Z0 c : Nat)) ∧ Below w.heap.size w w'
theorem Zk5 : ∀ n, Zpo n
 | n => fun w F c A k hv hc => by
  have IH : ∀ n', n = n' + 1 → Zpo n' := fun n' h => by subst h; exact Zk5 n'
  unfold Zd.val;have HV := zh hv;obtain ⟨A', k', ek, hkc, hkm, _⟩ := hv.kids;have hks1 : (c.kids.length : Int) ≤ 9223372036854775807 := by unfold maxLen at hkm; cases ek; omega
  clear ek hkc hkm hv;have hlwb : Za w (w.alloc (.cells #[.int .i64 c.kind, .int .i64 c.op, .int .i64 c.aB, .int .i64 c.line, .string c.text, .slice A c.kids.length k] 68)) := (Za.refl _).alloc _;obtain ⟨wb, hwb⟩ : ∃ z, w.alloc (.cells #[.int .i64 c.kind, .int .i64 c.op, .int .i64 c.aB, .int .i64 c.line, .string c.text, .slice A c.kids.length k] 68) = z := ⟨_, rfl⟩;rw [hwb] at hlwb;have HB := zh (show wb.heap[w.heap.size]? = some (.cells #[.int .i64 c.kind, .int .i64 c.op, .int .i64 c.aB, .int .i64 c.line, .string c.text, .slice A c.kids.length k] 68 (0, 0)) by rw [← hwb]; exact heap_alloc_new _ _);have HLb := zh hlwb;clear hlwb;have hcc := Zq c;have hcn := Zq c;obtain ⟨c0, c1, c2, c3, c4, c5⟩ := cz6 HB.o;have fc0 := fz HB.o;go_enter Tryz.func70, Tryz.ntmps70;go_wp2_with fail
  go_loopw [3, 4] (fun nv iv wr => ∃ j : Nat, j ≤ c.kids.length ∧ iv = .int .i64 j ∧ nv = .int .i64 ((Zx (c.kids.take j) + 1) : Nat) ∧ Za wb wr) (fun _ iv _ => c.kids.length - (intOf iv).toNat)
  case atStart => exact ⟨0, Nat.zero_le _, rfl, by simp [Zx, Ze5], Za.refl _⟩
  case round =>
   obtain ⟨j, hj, rfl, rfl, hl⟩ := hrel;have HL := zh hl;clear hl;clear c0 c1 c2 c3 c4 c5 fc0;have HBk := zB HL HB;obtain ⟨c0, c1, c2, c3, c4, c5⟩ := cz6 HBk.o;have fc0 := fz HBk.o;clear HBk
   by_cases hlt : j < c.kids.length
   ·obtain ⟨n', rfl⟩ := HV.o.lev hlt;have hlt' : (j : Int) < (c.kids.length : Int) := by omega
    obtain ⟨kb, ko, Bk, q, eA, hca⟩ := CAt.kid HV.o.kids hlt;have hca := hca.keep (fun _ h => h) (Zb.later (HLb.o.trans HL.o));cases eA;have HCA := zh hca;obtain ⟨x, hx⟩ : ∃ z, z = c.kids[j] := ⟨_, rfl⟩;rw [← hx] at hca HCA;have d0 := hca.c0;have d1 := hca.c1;have d2 := hca.c2;have d3 := hca.c3;have d4 := hca.c4;have d5 := hca.c5;clear hca;have hb1 : Z0 x + 1 ≤ Z0 c := by rw [hx]; exact Zkd hlt
    have hb2 := Zj5 x;have hb3 := Zf8 (c.kids.take j);have hb4 := Zcx c.kids j;have HSN := zh (show Zx (c.kids.take (j + 1)) + 1 = (Zx (c.kids.take j) + 1) + Z0 x ∧ Zx (c.kids.take (j + 1)) ≤ Zx c.kids from by rw [hx]; exact ⟨by have := Zhy c.kids j hlt; omega, Zcx c.kids (j + 1)⟩);clear hx;obtain ⟨t, ht⟩ : ∃ z, z = Zx (c.kids.take j) + 1 := ⟨_, rfl⟩;rw [← ht] at HSN;have HT := zh ht;have hsn := HSN.o;have htb : t + Z0 x ≤ 8388608 := by omega
    clear ht;go_wp2_with fail;refine (IH n' rfl _ F x Bk q (HCA.o.cv.keep (fun _ h => h) (Zb.later (Za.refl _))) (by omega)).mono ?_;rintro e w2 ⟨rfl, hb2⟩;have HL2 := zh (HL.o.trans (hb2));clear hb2;clear d0 d1 d2 d3 d4 d5;have t1 : IntKind.i64.wrap ((t : Int) + (Z0 x : Nat)) = ((t + Z0 x : Nat) : Int) := by rw [IntWalk.i64_in _ (by omega)]; rfl
    clear hsn;go_wp2_with fail
    go_roundw
    case rel => exact ⟨j + 1, by omega, by go_num, by have e := HT.o; rw [HSN.o.1, e]; rw [e] at htb; go_num, HL2.o⟩
    case measure => simp [intOf]; omega
   ·obtain rfl : j = c.kids.length := by omega
    go_wp2_with fail;go_ret;exact ⟨Zae (by simp only [List.take_length, hcc]), HLb.o.trans HL.o⟩
def Zpp (n : Nat) : Prop := ∀ (w : World) (F : Nat → Prop) (c : Zd) (A : Option Addr) (k : Nat), CV n F w c A k → Z0 c ≤ 4194304 → Calls Tryz.prog 80 #[c.val A k] w fun e w' => e = .returned (.int .i64 (dpC c : Nat)) ∧ Below w.heap.size w w'
theorem Zk6 : ∀ n, Zpp n
 | n => fun w F c A k hv hc => by
  have IH : ∀ n', n = n' + 1 → Zpp n' := fun n' h => by subst h; exact Zk6 n'
  unfold Zd.val;have HV := zh hv;obtain ⟨A', k', ek, hkc, hkm, _⟩ := hv.kids;have hks1 : (c.kids.length : Int) ≤ 9223372036854775807 := by unfold maxLen at hkm; cases ek; omega
  clear ek hkc hkm hv;have hlwb : Za w (w.alloc (.cells #[.int .i64 c.kind, .int .i64 c.op, .int .i64 c.aB, .int .i64 c.line, .string c.text, .slice A c.kids.length k] 68)) := (Za.refl _).alloc _;obtain ⟨wb, hwb⟩ : ∃ z, w.alloc (.cells #[.int .i64 c.kind, .int .i64 c.op, .int .i64 c.aB, .int .i64 c.line, .string c.text, .slice A c.kids.length k] 68) = z := ⟨_, rfl⟩;rw [hwb] at hlwb;have HB := zh (show wb.heap[w.heap.size]? = some (.cells #[.int .i64 c.kind, .int .i64 c.op, .int .i64 c.aB, .int .i64 c.line, .string c.text, .slice A c.kids.length k] 68 (0, 0)) by rw [← hwb]; exact heap_alloc_new _ _);have HLb := zh hlwb;clear hlwb;have hcc := Zkc c;have hcn := Zq c;obtain ⟨c0, c1, c2, c3, c4, c5⟩ := cz6 HB.o;have fc0 := fz HB.o;go_enter Tryz.func80, Tryz.ntmps80;go_wp2_with fail
  go_loopw [3, 5, 9] (fun nv _ iv wr => ∃ j : Nat, j ≤ c.kids.length ∧ iv = .int .i64 j ∧ nv = .int .i64 (Ze5 (c.kids.take j) : Nat) ∧ Za wb wr) (fun _ _ iv _ => c.kids.length - (intOf iv).toNat)
  case atStart => exact ⟨0, Nat.zero_le _, rfl, by simp [Zx, Ze5], Za.refl _⟩
  case round =>
   obtain ⟨j, hj, rfl, rfl, hl⟩ := hrel;have HL := zh hl;clear hl;clear c0 c1 c2 c3 c4 c5 fc0;have HBk := zB HL HB;obtain ⟨c0, c1, c2, c3, c4, c5⟩ := cz6 HBk.o;have fc0 := fz HBk.o;clear HBk
   by_cases hlt : j < c.kids.length
   ·obtain ⟨n', rfl⟩ := HV.o.lev hlt;have hlt' : (j : Int) < (c.kids.length : Int) := by omega
    obtain ⟨kb, ko, Bk, q, eA, hca⟩ := CAt.kid HV.o.kids hlt;have hca := hca.keep (fun _ h => h) (Zb.later (HLb.o.trans HL.o));cases eA;have HCA := zh hca;obtain ⟨x, hx⟩ : ∃ z, z = c.kids[j] := ⟨_, rfl⟩;rw [← hx] at hca HCA;have d0 := hca.c0;have d1 := hca.c1;have d2 := hca.c2;have d3 := hca.c3;have d4 := hca.c4;have d5 := hca.c5;clear hca;have hb1 : Z0 x + 1 ≤ Z0 c := by rw [hx]; exact Zkd hlt
    have hb2 := Zj5 x;have hb3 := Zf8 (c.kids.take j);have hb4 := Zcx c.kids j;have HSN := zh (show Ze5 (c.kids.take (j + 1)) = max (Ze5 (c.kids.take j)) (dpC x) from by rw [hx]; exact Zl9 c.kids j hlt);clear hx;obtain ⟨t, ht⟩ : ∃ z, z = Ze5 (c.kids.take j) := ⟨_, rfl⟩;rw [← ht] at HSN;have HT := zh ht;have hsn := HSN.o;have htb : t + dpC x ≤ 8388608 := by omega
    clear ht;go_wp2_with fail;refine (IH n' rfl _ F x Bk q (HCA.o.cv.keep (fun _ h => h) (Zb.later ((Za.refl _).alloc _))) (by omega)).mono ?_;rintro e w2 ⟨rfl, hb2⟩;have HL2 := zh (HL.o.trans (Za.trans ((Za.refl _).alloc _) hb2));clear hb2;clear d0 d1 d2 d3 d4 d5;clear hsn;go_wp2_with fail
    go_roundw
    case rel => exact ⟨j + 1, by omega, by go_num, by have e := HT.o; rw [HSN.o, e]; rw [e] at htb; go_num, HL2.o⟩
    case measure => simp [intOf]; omega
   ·obtain rfl : j = c.kids.length := by omega
    go_wp2_with fail;go_ret;exact ⟨Zae (by have := Zf8 c.kids; simp only [List.take_length, hcc]; rw [IntWalk.wrap64_in _ (by omega)]; rfl), HLb.o.trans HL.o⟩
end
theorem Zmz (n : Nat) (w : World) (F : Nat → Prop) (c : Zd) (A : Option Addr) (k : Nat) (hv : CV n F w c A k) (ht : Spc w) : Calls Tryz.prog 136 #[c.val A k] w fun e w' => e = .returned (.tuple #[.int .i64 (Zbw c.kind c.op), .int .i64 (Zcg c.kind c.op)]) ∧ Below w.heap.size w w' := by
 unfold Zd.val;have HV := zh hv;clear hv;have hlwb : Za w (w.alloc (.cells #[.int .i64 c.kind, .int .i64 c.op, .int .i64 c.aB, .int .i64 c.line, .string c.text, .slice A c.kids.length k] 68)) := (Za.refl _).alloc _;obtain ⟨wb, hwb⟩ : ∃ z, w.alloc (.cells #[.int .i64 c.kind, .int .i64 c.op, .int .i64 c.aB, .int .i64 c.line, .string c.text, .slice A c.kids.length k] 68) = z := ⟨_, rfl⟩;rw [hwb] at hlwb;have HB := zh (show wb.heap[w.heap.size]? = some (.cells #[.int .i64 c.kind, .int .i64 c.op, .int .i64 c.aB, .int .i64 c.line, .string c.text, .slice A c.kids.length k] 68 (0, 0)) by rw [← hwb]; exact heap_alloc_new _ _);have HLb := zh hlwb;clear hlwb;obtain ⟨c0, c1, c2, c3, c4, c5⟩ := cz6 HB.o;have fc0 := fz HB.o;obtain ⟨lo, hlo⟩ : ∃ z, z = Zbw c.kind c.op := ⟨_, rfl⟩;obtain ⟨hi, hhi⟩ : ∃ z, z = Zcg c.kind c.op := ⟨_, rfl⟩;rw [← hlo, ← hhi];have HLO := zh hlo;have HHI := zh hhi;clear hlo hhi
 by_cases h11 : c.kind = 11
 ·rw [h11] at c0;obtain rfl : lo = Zdn c.op := HLO.o.trans (by unfold Zbw; rw [if_pos h11]);obtain rfl : hi = Zdz c.op := HHI.o.trans (by unfold Zcg; rw [if_pos h11]);clear h11 HLO HHI;go_enter Tryz.func136, Tryz.ntmps136;go_wp2_with fail;refine (Zjs c.op _ (ht.below HLb.o)).mono ?_;rintro e w2 ⟨rfl, hb2⟩;have HL2 := zh (HLb.o.trans hb2);clear hb2;go_wp2_with fail
  go_ret2
  exact ⟨rfl, HL2.o⟩
 by_cases h12 : c.kind = 12
 ·rw [h12] at c0;obtain rfl : lo = 1 := HLO.o.trans (by simp [Zbw, h12]);obtain rfl : hi = 9 := HHI.o.trans (by simp [Zcg, h12]);clear h12 HLO HHI;go_enter Tryz.func136, Tryz.ntmps136;go_wp2_with fail
  go_ret2
  exact ⟨rfl, HLb.o⟩
 by_cases h13 : c.kind = 13
 ·rw [h13] at c0;obtain rfl : lo = 2 := HLO.o.trans (by simp [Zbw, h13]);obtain rfl : hi = 2 := HHI.o.trans (by simp [Zcg, h13]);clear h13 HLO HHI;go_enter Tryz.func136, Tryz.ntmps136;go_wp2_with fail
  go_ret2
  exact ⟨rfl, HLb.o⟩
 by_cases h15 : c.kind = 15
 ·rw [h15] at c0;obtain rfl : lo = 2 := HLO.o.trans (by simp [Zbw, h15]);obtain rfl : hi = 2 := HHI.o.trans (by simp [Zcg, h15]);clear h15 HLO HHI;go_enter Tryz.func136, Tryz.ntmps136;go_wp2_with fail
  go_ret2
  exact ⟨rfl, HLb.o⟩
 by_cases h18 : c.kind = 18
 ·rw [h18] at c0;obtain rfl : lo = 2 := HLO.o.trans (by simp [Zbw, h18]);obtain rfl : hi = 2 := HHI.o.trans (by simp [Zcg, h18]);clear h18 HLO HHI;go_enter Tryz.func136, Tryz.ntmps136;go_wp2_with fail
  go_ret2
  exact ⟨rfl, HLb.o⟩
 by_cases h19 : c.kind = 19
 ·rw [h19] at c0;obtain rfl : lo = 2 := HLO.o.trans (by simp [Zbw, h19]);obtain rfl : hi = 2 := HHI.o.trans (by simp [Zcg, h19]);clear h19 HLO HHI;go_enter Tryz.func136, Tryz.ntmps136;go_wp2_with fail
  go_ret2
  exact ⟨rfl, HLb.o⟩
 by_cases h22 : c.kind = 22
 ·rw [h22] at c0;obtain rfl : lo = 2 := HLO.o.trans (by simp [Zbw, h22]);obtain rfl : hi = 2 := HHI.o.trans (by simp [Zcg, h22]);clear h22 HLO HHI;go_enter Tryz.func136, Tryz.ntmps136;go_wp2_with fail
  go_ret2
  exact ⟨rfl, HLb.o⟩
 by_cases h25 : c.kind = 25
 ·rw [h25] at c0;obtain rfl : lo = 2 := HLO.o.trans (by simp [Zbw, h25]);obtain rfl : hi = 2 := HHI.o.trans (by simp [Zcg, h25]);clear h25 HLO HHI;go_enter Tryz.func136, Tryz.ntmps136;go_wp2_with fail
  go_ret2
  exact ⟨rfl, HLb.o⟩
 by_cases h14 : c.kind = 14
 ·rw [h14] at c0;obtain rfl : lo = 1 := HLO.o.trans (by simp [Zbw, h14]);obtain rfl : hi = 1 := HHI.o.trans (by simp [Zcg, h14]);clear h14 HLO HHI;go_enter Tryz.func136, Tryz.ntmps136;go_wp2_with fail
  go_ret2
  exact ⟨rfl, HLb.o⟩
 by_cases h20 : c.kind = 20
 ·rw [h20] at c0;obtain rfl : lo = 1 := HLO.o.trans (by simp [Zbw, h20]);obtain rfl : hi = 1 := HHI.o.trans (by simp [Zcg, h20]);clear h20 HLO HHI;go_enter Tryz.func136, Tryz.ntmps136;go_wp2_with fail
  go_ret2
  exact ⟨rfl, HLb.o⟩
 by_cases h23 : c.kind = 23
 ·rw [h23] at c0;obtain rfl : lo = 1 := HLO.o.trans (by simp [Zbw, h23]);obtain rfl : hi = 1 := HHI.o.trans (by simp [Zcg, h23]);clear h23 HLO HHI;go_enter Tryz.func136, Tryz.ntmps136;go_wp2_with fail
  go_ret2
  exact ⟨rfl, HLb.o⟩
 by_cases h26 : c.kind = 26
 ·rw [h26] at c0;obtain rfl : lo = 1 := HLO.o.trans (by simp [Zbw, h26]);obtain rfl : hi = 1 := HHI.o.trans (by simp [Zcg, h26]);clear h26 HLO HHI;go_enter Tryz.func136, Tryz.ntmps136;go_wp2_with fail
  go_ret2
  exact ⟨rfl, HLb.o⟩
 by_cases h27 : c.kind = 27
 ·rw [h27] at c0;obtain rfl : lo = 1 := HLO.o.trans (by simp [Zbw, h27]);obtain rfl : hi = 1 := HHI.o.trans (by simp [Zcg, h27]);clear h27 HLO HHI;go_enter Tryz.func136, Tryz.ntmps136;go_wp2_with fail
  go_ret2
  exact ⟨rfl, HLb.o⟩
 by_cases h16 : c.kind = 16
 ·rw [h16] at c0;obtain rfl : lo = 1 := HLO.o.trans (by simp [Zbw, h16]);obtain rfl : hi = 24 := HHI.o.trans (by simp [Zcg, h16]);clear h16 HLO HHI;go_enter Tryz.func136, Tryz.ntmps136;go_wp2_with fail
  go_ret2
  exact ⟨rfl, HLb.o⟩
 by_cases h17 : c.kind = 17
 ·rw [h17] at c0;obtain rfl : lo = 3 := HLO.o.trans (by simp [Zbw, h17]);obtain rfl : hi = 3 := HHI.o.trans (by simp [Zcg, h17]);clear h17 HLO HHI;go_enter Tryz.func136, Tryz.ntmps136;go_wp2_with fail
  go_ret2
  exact ⟨rfl, HLb.o⟩
 obtain rfl : lo = 0 := HLO.o.trans (by simp [Zbw, h11, h12, h13, h15, h18, h19, h22, h25, h14, h20, h23, h26, h27, h16, h17]);obtain rfl : hi = 0 := HHI.o.trans (by simp [Zcg, h11, h12, h13, h15, h18, h19, h22, h25, h14, h20, h23, h26, h27, h16, h17]);have t11 : (c.kind == 11) = false := nH.2 h11;have t12 : (c.kind == 12) = false := nH.2 h12;have t13 : (c.kind == 13) = false := nH.2 h13;have t15 : (c.kind == 15) = false := nH.2 h15;have t18 : (c.kind == 18) = false := nH.2 h18;have t19 : (c.kind == 19) = false := nH.2 h19;have t22 : (c.kind == 22) = false := nH.2 h22;have t25 : (c.kind == 25) = false := nH.2 h25;have t14 : (c.kind == 14) = false := nH.2 h14;have t20 : (c.kind == 20) = false := nH.2 h20;have t23 : (c.kind == 23) = false := nH.2 h23;have t26 : (c.kind == 26) = false := nH.2 h26;have t27 : (c.kind == 27) = false := nH.2 h27;have t16 : (c.kind == 16) = false := nH.2 h16;have t17 : (c.kind == 17) = false := nH.2 h17;clear HLO HHI h11 h12 h13 h15 h18 h19 h22 h25 h14 h20 h23 h26 h27 h16 h17;go_enter Tryz.func136, Tryz.ntmps136;go_wp2_with fail
 go_ret2
 exact ⟨rfl, HLb.o⟩
theorem Zo2 (n : Nat) (w : World) (F : Nat → Prop) (c : Zd) (A : Option Addr) (k : Nat) (hv : CV n F w c A k) : Calls Tryz.prog 123 #[c.val A k] w fun e w' => e = .returned (.tuple #[.int .i64 (Zbw c.kind c.op), .int .i64 (Zcg c.kind c.op)]) ∧ Below w.heap.size w w' := by
 unfold Zd.val;have HV := zh hv;clear hv;have hlwb : Za w (w.alloc (.cells #[.int .i64 c.kind, .int .i64 c.op, .int .i64 c.aB, .int .i64 c.line, .string c.text, .slice A c.kids.length k] 68)) := (Za.refl _).alloc _;obtain ⟨wb, hwb⟩ : ∃ z, w.alloc (.cells #[.int .i64 c.kind, .int .i64 c.op, .int .i64 c.aB, .int .i64 c.line, .string c.text, .slice A c.kids.length k] 68) = z := ⟨_, rfl⟩;rw [hwb] at hlwb;have HB := zh (show wb.heap[w.heap.size]? = some (.cells #[.int .i64 c.kind, .int .i64 c.op, .int .i64 c.aB, .int .i64 c.line, .string c.text, .slice A c.kids.length k] 68 (0, 0)) by rw [← hwb]; exact heap_alloc_new _ _);have HLb := zh hlwb;clear hlwb;obtain ⟨c0, c1, c2, c3, c4, c5⟩ := cz6 HB.o;have fc0 := fz HB.o;obtain ⟨lo, hlo⟩ : ∃ z, z = Zbw c.kind c.op := ⟨_, rfl⟩;obtain ⟨hi, hhi⟩ : ∃ z, z = Zcg c.kind c.op := ⟨_, rfl⟩;rw [← hlo, ← hhi];have HLO := zh hlo;have HHI := zh hhi;clear hlo hhi
 by_cases h11 : c.kind = 11
 ·rw [h11] at c0;obtain rfl : lo = Zdn c.op := HLO.o.trans (by unfold Zbw; rw [if_pos h11]);obtain rfl : hi = Zdz c.op := HHI.o.trans (by unfold Zcg; rw [if_pos h11]);clear h11 HLO HHI;go_enter Tryz.func123, Tryz.ntmps123;go_wp2_with fail;refine (Zjt c.op _).mono ?_;rintro e w2 ⟨rfl, hb2⟩;have HL2 := zh (HLb.o.trans hb2);clear hb2;go_wp2_with fail
  go_ret2
  exact ⟨rfl, HL2.o⟩
 by_cases h12 : c.kind = 12
 ·rw [h12] at c0;obtain rfl : lo = 1 := HLO.o.trans (by simp [Zbw, h12]);obtain rfl : hi = 9 := HHI.o.trans (by simp [Zcg, h12]);clear h12 HLO HHI;go_enter Tryz.func123, Tryz.ntmps123;go_wp2_with fail
  go_ret2
  exact ⟨rfl, HLb.o⟩
 by_cases h13 : c.kind = 13
 ·rw [h13] at c0;obtain rfl : lo = 2 := HLO.o.trans (by simp [Zbw, h13]);obtain rfl : hi = 2 := HHI.o.trans (by simp [Zcg, h13]);clear h13 HLO HHI;go_enter Tryz.func123, Tryz.ntmps123;go_wp2_with fail
  go_ret2
  exact ⟨rfl, HLb.o⟩
 by_cases h15 : c.kind = 15
 ·rw [h15] at c0;obtain rfl : lo = 2 := HLO.o.trans (by simp [Zbw, h15]);obtain rfl : hi = 2 := HHI.o.trans (by simp [Zcg, h15]);clear h15 HLO HHI;go_enter Tryz.func123, Tryz.ntmps123;go_wp2_with fail
  go_ret2
  exact ⟨rfl, HLb.o⟩
 by_cases h18 : c.kind = 18
 ·rw [h18] at c0;obtain rfl : lo = 2 := HLO.o.trans (by simp [Zbw, h18]);obtain rfl : hi = 2 := HHI.o.trans (by simp [Zcg, h18]);clear h18 HLO HHI;go_enter Tryz.func123, Tryz.ntmps123;go_wp2_with fail
  go_ret2
  exact ⟨rfl, HLb.o⟩
 by_cases h19 : c.kind = 19
 ·rw [h19] at c0;obtain rfl : lo = 2 := HLO.o.trans (by simp [Zbw, h19]);obtain rfl : hi = 2 := HHI.o.trans (by simp [Zcg, h19]);clear h19 HLO HHI;go_enter Tryz.func123, Tryz.ntmps123;go_wp2_with fail
  go_ret2
  exact ⟨rfl, HLb.o⟩
 by_cases h22 : c.kind = 22
 ·rw [h22] at c0;obtain rfl : lo = 2 := HLO.o.trans (by simp [Zbw, h22]);obtain rfl : hi = 2 := HHI.o.trans (by simp [Zcg, h22]);clear h22 HLO HHI;go_enter Tryz.func123, Tryz.ntmps123;go_wp2_with fail
  go_ret2
  exact ⟨rfl, HLb.o⟩
 by_cases h25 : c.kind = 25
 ·rw [h25] at c0;obtain rfl : lo = 2 := HLO.o.trans (by simp [Zbw, h25]);obtain rfl : hi = 2 := HHI.o.trans (by simp [Zcg, h25]);clear h25 HLO HHI;go_enter Tryz.func123, Tryz.ntmps123;go_wp2_with fail
  go_ret2
  exact ⟨rfl, HLb.o⟩
 by_cases h14 : c.kind = 14
 ·rw [h14] at c0;obtain rfl : lo = 1 := HLO.o.trans (by simp [Zbw, h14]);obtain rfl : hi = 1 := HHI.o.trans (by simp [Zcg, h14]);clear h14 HLO HHI;go_enter Tryz.func123, Tryz.ntmps123;go_wp2_with fail
  go_ret2
  exact ⟨rfl, HLb.o⟩
 by_cases h20 : c.kind = 20
 ·rw [h20] at c0;obtain rfl : lo = 1 := HLO.o.trans (by simp [Zbw, h20]);obtain rfl : hi = 1 := HHI.o.trans (by simp [Zcg, h20]);clear h20 HLO HHI;go_enter Tryz.func123, Tryz.ntmps123;go_wp2_with fail
  go_ret2
  exact ⟨rfl, HLb.o⟩
 by_cases h23 : c.kind = 23
 ·rw [h23] at c0;obtain rfl : lo = 1 := HLO.o.trans (by simp [Zbw, h23]);obtain rfl : hi = 1 := HHI.o.trans (by simp [Zcg, h23]);clear h23 HLO HHI;go_enter Tryz.func123, Tryz.ntmps123;go_wp2_with fail
  go_ret2
  exact ⟨rfl, HLb.o⟩
 by_cases h26 : c.kind = 26
 ·rw [h26] at c0;obtain rfl : lo = 1 := HLO.o.trans (by simp [Zbw, h26]);obtain rfl : hi = 1 := HHI.o.trans (by simp [Zcg, h26]);clear h26 HLO HHI;go_enter Tryz.func123, Tryz.ntmps123;go_wp2_with fail
  go_ret2
  exact ⟨rfl, HLb.o⟩
 by_cases h27 : c.kind = 27
 ·rw [h27] at c0;obtain rfl : lo = 1 := HLO.o.trans (by simp [Zbw, h27]);obtain rfl : hi = 1 := HHI.o.trans (by simp [Zcg, h27]);clear h27 HLO HHI;go_enter Tryz.func123, Tryz.ntmps123;go_wp2_with fail
  go_ret2
  exact ⟨rfl, HLb.o⟩
 by_cases h16 : c.kind = 16
 ·rw [h16] at c0;obtain rfl : lo = 1 := HLO.o.trans (by simp [Zbw, h16]);obtain rfl : hi = 24 := HHI.o.trans (by simp [Zcg, h16]);clear h16 HLO HHI;go_enter Tryz.func123, Tryz.ntmps123;go_wp2_with fail
  go_ret2
  exact ⟨rfl, HLb.o⟩
 by_cases h17 : c.kind = 17
 ·rw [h17] at c0;obtain rfl : lo = 3 := HLO.o.trans (by simp [Zbw, h17]);obtain rfl : hi = 3 := HHI.o.trans (by simp [Zcg, h17]);clear h17 HLO HHI;go_enter Tryz.func123, Tryz.ntmps123;go_wp2_with fail
  go_ret2
  exact ⟨rfl, HLb.o⟩
 obtain rfl : lo = 0 := HLO.o.trans (by simp [Zbw, h11, h12, h13, h15, h18, h19, h22, h25, h14, h20, h23, h26, h27, h16, h17]);obtain rfl : hi = 0 := HHI.o.trans (by simp [Zcg, h11, h12, h13, h15, h18, h19, h22, h25, h14, h20, h23, h26, h27, h16, h17]);have t11 : (c.kind == 11) = false := nH.2 h11;have t12 : (c.kind == 12) = false := nH.2 h12;have t13 : (c.kind == 13) = false := nH.2 h13;have t15 : (c.kind == 15) = false := nH.2 h15;have t18 : (c.kind == 18) = false := nH.2 h18;have t19 : (c.kind == 19) = false := nH.2 h19;have t22 : (c.kind == 22) = false := nH.2 h22;have t25 : (c.kind == 25) = false := nH.2 h25;have t14 : (c.kind == 14) = false := nH.2 h14;have t20 : (c.kind == 20) = false := nH.2 h20;have t23 : (c.kind == 23) = false := nH.2 h23;have t26 : (c.kind == 26) = false := nH.2 h26;have t27 : (c.kind == 27) = false := nH.2 h27;have t16 : (c.kind == 16) = false := nH.2 h16;have t17 : (c.kind == 17) = false := nH.2 h17;clear HLO HHI h11 h12 h13 h15 h18 h19 h22 h25 h14 h20 h23 h26 h27 h16 h17;go_enter Tryz.func123, Tryz.ntmps123;go_wp2_with fail
 go_ret2
 exact ⟨rfl, HLb.o⟩
theorem Zd9 (x lo hi : Int) (w : World) : Calls Tryz.prog 66 #[.int .i64 x, .int .i64 lo, .int .i64 hi] w fun e w' => e = .returned (.bool (decide (lo ≤ x) && decide (x ≤ hi))) ∧ w' = w := by
 obtain ⟨p, hp⟩ : ∃ b : Bool, decide (lo ≤ x) = b := ⟨_, rfl⟩;obtain ⟨q, hq⟩ : ∃ b : Bool, decide (x ≤ hi) = b := ⟨_, rfl⟩;rw [hp, hq]
 cases p <;> cases q <;>
  (go_enter Tryz.func66, Tryz.ntmps66
   go_wp2_with fail;go_ret;exact ⟨rfl, rfl⟩)
theorem Zk7 (a : Int) (n : Int) : (decide (0 ≤ a) && decide (a ≤ n - 1)) = inB a n := by
 unfold inB
 congr 1
 exact decide_eq_decide.2 (by omega)
theorem Zvf (a : Int) : (decide (0 ≤ a) && decide (a ≤ 54)) = inB a 55 := Zk7 a 55
theorem Zvg (a : Int) : (decide (1 ≤ a) && decide (a ≤ 2)) = ((a == 1) || (a == 2)) := by
 rw [Bool.eq_iff_iff];simp
 omega
theorem Zqh : (Tryz.prog.info? 5).map (fun i => (i.zero, i.size, i.bytes)) = some (some (.int .u8 0), 1, 1) := by kernel_rfl
theorem Zk8 {w : World} {base g cap n : Nat} {ns : List Int} (hn : ns.length = n) (hown : w.ownsRow base 5 1 (.slice (some ⟨g, 0, none⟩) n cap) n (ns.map (Value.int .u8))) :
  (convert 192 9 (.slice (some ⟨g, 0, none⟩) n cap)).run Tryz.prog w = .ok (.string (Zm9 ns)) w := by
 subst hn;rw [run_convert_bytes_string w 192 9 5 _ _ _ Tryz.underlying192 Tryz.underlying5 Tryz.underlying9];have hl := run_loadCells_list (P := Tryz.prog) w ⟨g, 0, none⟩ (ns.map (Value.int .u8)) (hown.cells (g := g) rfl);rw [List.length_map] at hl;rw [run_bytesToString w ⟨g, 0, none⟩ ns.length cap ns hl, Zna]
theorem Zqi {w x : World} {base : Nat} {e : TypeId} {size : Nat} {v : Value} {n : Nat} {xs : List Value} (h : w.ownsRow base e size v n xs) (hl : Za w x) : x.ownsRow base e size v n xs := by
 refine ⟨h.1, ?_⟩
 rcases h.2 with hn | ⟨g, cap, cur, rfl, hb, hg, rest⟩
 ·exact .inl hn
 ·exact .inr ⟨g, cap, cur, rfl, hb, (Below.block hl g (Array.getElem?_eq_some_iff.1 hg).1).trans hg, rest⟩
structure Zhz (w : World) (o : List UInt8) (v : Value) (wr : World) : Prop where
 row : wr.ownsRow w.heap.size 5 1 v o.length ((Zlp o).map (Value.int .u8))
 bel : Below w.heap.size w wr
 nn : v ≠ .slice none 0 0
theorem Zhz.later {w wr x : World} {o : List UInt8} {v : Value} (h : Zhz w o v wr) (hl : Za wr x) : Zhz w o v x :=
 ⟨Zqi h.row hl, Below.trans h.bel (Below.mono hl h.bel.size), h.nn⟩
theorem Zhz.form {w wr : World} {o : List UInt8} {v : Value} (h : Zhz w o v wr) : ∃ g cap, v = .slice (some ⟨g, 0, none⟩) o.length cap := by
 rcases h.row.2 with ⟨hv, _⟩ | ⟨g, cap, cur, hv, _⟩
 ·exact absurd hv h.nn
 ·exact ⟨g, cap, hv⟩
theorem Zhz.push {w wr w1 : World} {o : List UInt8} {v v' : Value} (h : Zhz w o v wr) (x : UInt8) (c : Int) (hc : (x.toNat : Int) = c) {ob : Obj} (hown' : w1.ownsRow w.heap.size 5 1 v' (o.length + 1) ((Zlp o).map (Value.int .u8) ++ [Value.int .u8 c])) (hg : (wr.alloc ob).grownBy w1 v.ownBlock) (hn : v' = .slice none 0 0 ↔ v = .slice none 0 0 ∧ 1 = 0) : Zhz w (o ++ [x]) v' w1 := by
 subst hc;have hsz := h.bel.size;refine ⟨?_, (h.bel.alloc hsz ob).grown hg (by simp; omega) (fun g hg' => (h.row.lt g hg').1), fun e => by have := (hn.1 e).2; omega⟩;rw [List.length_append, List.length_singleton, Zm8, List.map_append];exact hown'
theorem Zhz.start (w : World) : Zhz w [] (.slice (some ⟨w.heap.size, 0, none⟩) 0 0) (w.alloc (.cells #[] 5)) :=
 ⟨⟨rfl, .inr ⟨w.heap.size, 0, #[], rfl, Nat.le_refl _, heap_alloc_new w _, Nat.le_refl _, Nat.zero_le _, rfl, rfl⟩⟩, (Below.refl _ _).alloc (Nat.le_refl _) _, fun e => by cases e⟩
theorem Zo3 (o : List UInt8) : Zm9 (Zlp o) = ⟨o.toArray⟩ := by
 unfold Zm9 Zlp;rw [List.map_map]
 congr 1
 congr 1
 conv => rhs; rw [← List.map_id o]
 apply List.map_congr_left
 intro b _;simp
theorem Zhz.text {w wr : World} {o : List UInt8} {g cap : Nat} (h : Zhz w o (.slice (some ⟨g, 0, none⟩) o.length cap) wr) : (convert 192 9 (.slice (some ⟨g, 0, none⟩) o.length cap)).run Tryz.prog wr = .ok (.string ⟨o.toArray⟩) wr := by
 have := Zk8 (ns := Zlp o) (n := o.length) (by simp [Zlp]) h.row;rw [Zo3] at this;exact this
theorem Zf9 {x : World} {b : Nat} {v0 v1 : Value} {t : TypeId} (h : x.heap[b]? = some (.cells #[v0, v1] t (0, 0))) : x.cell? ⟨b, 0, none⟩ = some v0 ∧ x.cell? ⟨b, 1, none⟩ = some v1 :=
 ⟨cell_of_row x b 0 _ _ _ h, cell_of_row x b 1 _ _ _ h⟩
theorem Zm0 {x : World} {b : Nat} {v0 v1 : Value} {t : TypeId} (h : x.heap[b]? = some (.cells #[v0, v1] t (0, 0))) : x.frozen? ⟨b, 0, none⟩ = false ∧ x.frozen? ⟨b, 1, none⟩ = false :=
 ⟨frozen_of_row x b 0 _ _ h, frozen_of_row x b 1 _ _ h⟩
def Zim (lo c : Int) : Int := if c < 64 then bits .or .i64 lo (wrap64 (2 ^ c.toNat)) else lo
def Zin (hi c : Int) : Int := if c < 64 then hi else bits .or .i64 hi (wrap64 (2 ^ (c - 64).toNat))
theorem Zuu (lo hi b c : Int) (h0 : 0 ≤ b) (h1 : b ≤ 127) (h2 : 0 ≤ c) (h3 : c ≤ 127) : hb (Zim lo c) (Zin hi c) b = (hb lo hi b || decide (b = c)) := by
 unfold Zim Zin
 by_cases h : c < 64
 ·rw [if_pos h, if_pos h]; exact Zq7 lo hi b c h0 h1 h2 h
 ·rw [if_neg h, if_neg h]; exact Zq8 lo hi b c h0 h1 (by omega) h3
theorem Zqj (x y b : Int) (w : World) (h0 : 0 ≤ b) (h1 : b < 128) :
  Calls Tryz.prog 160 #[.agg #[.int .i64 x, .int .i64 y], .int .u8 b] w fun e w' => e = .returned (.agg #[.int .i64 (Zim x b), .int .i64 (Zin y b)]) ∧ Below w.heap.size w w' := by
 by_cases h2 : b < 64
 ·have t1 : decide (63 < b) = false := by simp; omega
  have HL := zh (show Zim x b = _ from if_pos h2);have HH := zh (show Zin y b = _ from if_pos h2);go_enter Tryz.func160, Tryz.ntmps160;go_wp2_with fail;exact bodyPost_ret (v := .agg #[.int .i64 (bits .or .i64 x (wrap64 (2 ^ b.toNat))), .int .i64 y]) (by simp [results, Tryz.results160, go_sem]) rfl ⟨by rw [HL.o, HH.o], ((Below.refl _ _).alloc (Nat.le_refl _) _).alloc (by simp) _⟩
 ·have t1 : decide (63 < b) = true := by simp; omega
  have HL := zh (show Zim x b = _ from if_neg h2);have HH := zh (show Zin y b = _ from if_neg h2);go_enter Tryz.func160, Tryz.ntmps160;go_wp2_with fail;exact bodyPost_ret (v := .agg #[.int .i64 x, .int .i64 (bits .or .i64 y (wrap64 (2 ^ (b - 64).toNat)))]) (by simp [results, Tryz.results160, go_sem]) rfl ⟨by rw [HL.o, HH.o], ((Below.refl _ _).alloc (Nat.le_refl _) _).alloc (by simp) _⟩
def Zjl (s : ByteArray) (j : Nat) (lo hi : Int) : Prop := (∀ k (h : k < s.size), k < j → s[k].toNat ≤ 127) ∧ ∀ b : Nat, b ≤ 127 → (hb lo hi (b : Int) = true ↔ ∃ k, ∃ h : k < s.size, k < j ∧ s[k].toNat = b)
theorem Zjl.next {s : ByteArray} {j : Nat} {lo hi c : Int} (h : Zjl s j lo hi) (hj : j < s.size) (hc : (s[j].toNat : Int) = c) (h7 : ¬ 127 < c) : Zjl s (j + 1) (Zim lo c) (Zin hi c) := by
 refine ⟨fun k hk hkj => ?_, fun b hb7 => ?_⟩
 ·rcases Nat.lt_or_ge k j with h1 | h1
  ·exact h.1 k hk h1
  ·obtain rfl : k = j := by omega
   omega
 ·rw [Zuu _ _ _ _ (by omega) (by omega) (by omega) (by omega), Bool.or_eq_true, h.2 b hb7, nJ]
  constructor
  ·rintro (⟨k, hk, h1, h2⟩ | h1)
   ·exact ⟨k, hk, by omega, h2⟩
   ·exact ⟨j, hj, by omega, by omega⟩
  ·rintro ⟨k, hk, h1, h2⟩
   rcases Nat.lt_or_ge k j with h3 | h3
   ·exact .inl ⟨k, hk, h3, h2⟩
   ·obtain rfl : k = j := by omega
    exact .inr (by omega)
theorem Zjl.all {s : ByteArray} {lo hi : Int} (h : Zjl s s.size lo hi) : (∀ x ∈ bl s, x.toNat ≤ 127) ∧ ∀ b : Nat, b ≤ 127 → (hb lo hi (b : Int) = true ↔ UInt8.ofNat b ∈ bl s) := by
 refine ⟨fun x hx => ?_, fun b hb7 => ?_⟩
 ·obtain ⟨k, hk, rfl⟩ := List.getElem_of_mem hx;rw [Zd5] at hk;rw [Zfd s k hk];exact h.1 k hk hk
 ·rw [h.2 b hb7]
  constructor
  ·rintro ⟨k, hk, _, h2⟩;have : UInt8.ofNat b = (bl s)[k]'(by rw [Zd5]; exact hk) := by rw [Zfd s k hk, ← h2, UInt8.ofNat_toNat]
   rw [this];exact List.getElem_mem _
  ·intro hm;obtain ⟨k, hk, e⟩ := List.getElem_of_mem hm;rw [Zd5] at hk;rw [Zfd s k hk] at e;refine ⟨k, hk, hk, ?_⟩;rw [e, UInt8.toNat_ofNat', Nat.mod_eq_of_lt (by omega)]
theorem Zjx (s : ByteArray) (w : World) (hs : s.size ≤ maxLen) :
  Calls Tryz.prog 125 #[.string s] w fun e w' => (∃ lo hi, ∃ ok : Bool, e = .returned (.tuple #[.agg #[.int .i64 lo, .int .i64 hi], .bool ok]) ∧ (ok = true → (∀ x ∈ bl s, x.toNat ≤ 127) ∧ ∀ b : Nat, b ≤ 127 → (hb lo hi (b : Int) = true ↔ UInt8.ofNat b ∈ bl s)) ∧ (ok = false → ∃ x ∈ bl s, 127 < x.toNat)) ∧ Below w.heap.size w w' := by
 unfold maxLen at hs;have HA := zh (Za.refl (w.alloc (.cells #[.int .i64 0, .int .i64 0] 180)) |>.alloc (.cells #[.int .i64 0, .int .i64 0] 180) |>.block _ (by simp) |>.trans (heap_alloc_new w (.cells #[.int .i64 0, .int .i64 0] 180)));have HB0 := zh (heap_alloc_new (w.alloc (.cells #[.int .i64 0, .int .i64 0] 180)) (.cells #[.int .i64 0, .int .i64 0] 180));have HS0 : Hd (Zjl s 0 0 0) := zh ⟨fun k _ h => by omega, fun b h => ⟨fun h1 => (by rw [Zq9 _ (by omega) (by omega)] at h1; cases h1), fun h1 => (by obtain ⟨k, _, h2, _⟩ := h1; omega)⟩⟩;go_enter Tryz.func125, Tryz.ntmps125;go_wp2_with fail
 go_loopw [5] (fun i wr => ∃ (j : Nat) (lo hi : Int), i = .int .i64 j ∧ j ≤ s.size ∧ Hd (Zjl s j lo hi) ∧ Hd (wr.heap[w.heap.size + 1]? = some (.cells #[.int .i64 lo, .int .i64 hi] 180 (0, 0))) ∧ Hd (wr.heap[w.heap.size]? = some (.cells #[.int .i64 0, .int .i64 0] 180 (0, 0))) ∧ Below w.heap.size w wr) (fun i _ => s.size - (intOf i).toNat)
 case atStart => exact ⟨0, 0, 0, rfl, Nat.zero_le _, HS0, zh (by simpa using HB0.o), HA, ((Below.refl _ _).alloc (Nat.le_refl _) _).alloc (by simp) _⟩
 case round =>
  obtain ⟨j, lo, hi, rfl, hj, HS, HB, HZ, hbel⟩ := hrel;have hlr : w.heap.size + 1 < wr.heap.size := (Array.getElem?_eq_some_iff.1 HB.o).1
  by_cases hlt : j < s.size
  ·have t1 : decide ((j : Int) < s.size) = true := nT (by omega);have hlt' : (j : Int) < s.size := by omega
   obtain ⟨c, hc⟩ : ∃ c : Int, (s[j].toNat : Int) = c := ⟨_, rfl⟩
   by_cases h7 : 127 < c
   ·have HX := zh (show ∃ x ∈ bl s, 127 < x.toNat from ⟨s[j], by rw [← Zfd s j hlt]; exact List.getElem_mem _, by omega⟩);have t2 : decide ((127 : Int) < c) = true := nT h7;obtain ⟨r0, r1⟩ := Zf9 HZ.o;obtain ⟨f0, f1⟩ := Zm0 HZ.o;have HBL := zh hbel;clear hbel;go_wp2_with fail;refine bodyPost_ret (v := .tuple #[.agg #[.int .i64 0, .int .i64 0], .bool false]) (by simp [results, Tryz.results125, go_sem, r0, r1, f0, f1]) rfl ⟨⟨0, 0, false, rfl, fun h => (by cases h), fun _ => HX.o⟩, (HBL.o.setCell (Nat.le_refl _) _).setCell (Nat.le_refl _) _⟩
   ·have t2 : decide ((127 : Int) < c) = false := nU h7;have hc0 : 0 ≤ c := by omega
    have hc1 : c < 128 := by omega
    have HS2 := zh (HS.o.next hlt hc h7);clear h7;go_upto_region 7 with (fail);refine Z3 [4, 5] [] (by kernel_rfl) (fun W hW => ?_);have hWL : Za wr W := by rw [hW]; exact (Za.refl _).drew
    have HC := zh ((hWL.block _ hlr).trans HB.o);have hlW : w.heap.size + 1 < W.heap.size := Nat.lt_of_lt_of_le hlr hWL.size;clear hW;refine Zs 0 (some 18) (v := ?_) rfl rfl (by kernel_rfl) (fun _ _ _ h => h) rfl (fun x hx => ?_) ?_;rotate_left
    ·obtain ⟨c0, c1⟩ := Zf9 ((hx.block _ hlW).trans HC.o); go_simp;first|done|with_reducible rfl|rw[if_neg (by omega)]|rw[if_pos (by omega)]
    simp only [Act.put, nA, nB, nC];refine Zs 1 (some 19) (v := ?_) rfl rfl (by kernel_rfl) (fun _ _ _ h => h) rfl (fun x hx => ?_) ?_;rotate_left
    ·go_simp;first|done|with_reducible rfl|rw[if_neg (by omega)]|rw[if_pos (by omega)]
    simp only [Act.put, nA, nB, nC];refine Zs 2 (some 20) (v := ?_) rfl rfl (by kernel_rfl) (fun _ _ _ h => h) rfl (fun x hx => ?_) ?_;rotate_left
    ·go_simp;first|done|with_reducible rfl|rw[if_neg (by omega)]|rw[if_pos (by omega)]
    simp only [Act.put, nA, nB, nC];refine Zs 3 (some 21) (v := ?_) rfl rfl (by kernel_rfl) (fun _ _ _ h => h) rfl (fun x hx => ?_) ?_;rotate_left
    ·go_simp;first|done|with_reducible rfl|rw[if_neg (by omega)]|rw[if_pos (by omega)]
    simp only [Act.put, nA, nB, nC];refine Zag [_, _] (by kernel_rfl) rfl rfl ?_;simp only [List.getElem_toArray, List.getElem_cons_succ, List.getElem_cons_zero];have HAD := zh (Zqj lo hi c W hc0 hc1);have HBW := zh (hbel.trans (Below.mono hWL hbel.size));have HZW := zh ((hWL.block _ (by omega)).trans HZ.o);clear hbel hWL HB HZ;go_wp2_with fail;refine HAD.o.mono ?_;rintro e w2 ⟨rfl, hb2⟩;have hb := (Below.block hb2 _ hlW).trans HC.o;have hz := (Below.block hb2 _ (by omega)).trans HZW.o;have HB3 := zh (HBW.o.trans (Below.mono hb2 HBW.o.size));obtain ⟨c0, c1⟩ := Zf9 hb;obtain ⟨f0, f1⟩ := Zm0 hb;have HN := zh (Za1 (o := 1) (Za1 (o := 0) hb (.int .i64 (Zim lo c))) (.int .i64 (Zin hi c)));have HZ3 := zh ((Below.heap_setCell _ ⟨w.heap.size + 1, 1, none⟩ (.int .i64 (Zin hi c)) w.heap.size (by simp)).trans ((Below.heap_setCell _ ⟨w.heap.size + 1, 0, none⟩ (.int .i64 (Zim lo c)) w.heap.size (by simp)).trans hz));clear hb hz hb2;go_wp2_with fail;clear c0 c1 f0 f1
    go_roundw
    case rel => exact ⟨j + 1, Zim lo c, Zin hi c, by go_num, by omega, HS2, zh HN.o, HZ3, (HB3.o.setCell (by simp) _).setCell (by simp) _⟩
    case measure => simp [intOf]; omega
  ·have t1 : decide ((j : Int) < s.size) = false := nU (by omega);have hjs : j = s.size := by omega
   have HALL := zh (Zjl.all (by rw [← hjs]; exact HS.o));obtain ⟨c0, c1⟩ := Zf9 HB.o;obtain ⟨r0, r1⟩ := Zf9 HZ.o;obtain ⟨f0, f1⟩ := Zm0 HZ.o;have HBL := zh hbel;have hne : ¬ w.heap.size + 1 = w.heap.size := by omega
   clear hbel;go_wp2_with fail;refine bodyPost_ret (v := .tuple #[.agg #[.int .i64 lo, .int .i64 hi], .bool true]) (by simp [results, Tryz.results125, go_sem, c0, c1, r0, r1, f0, f1]) rfl ⟨⟨lo, hi, true, rfl, fun _ => HALL.o, fun h => (by cases h)⟩, (HBL.o.setCell (Nat.le_refl _) _).setCell (Nat.le_refl _) _⟩
theorem Zi3 (lo hi : Int) (w : World) :
  Calls Tryz.prog 126 #[.agg #[.int .i64 lo, .int .i64 hi]] w fun e w' => e = .returned (.string ⟨(Zcq lo hi 128).toArray⟩) ∧ Below w.heap.size w w' := by
 obtain ⟨i0, hi0, hz0, hz1, hz2⟩ := info_parts Zqh;have HCL := zh (Znh lo hi);have HSU := zh (Zml lo hi);obtain ⟨w1, hw1⟩ : ∃ w1, w1 = w.alloc (.cells #[.int .i64 lo, .int .i64 hi] 180) := ⟨_, rfl⟩;have HP := zh (show w1.heap[w.heap.size]? = some (.cells #[.int .i64 lo, .int .i64 hi] 180 (0, 0)) by rw [hw1]; exact heap_alloc_new w _);have hb1 : Below w.heap.size w w1 := by rw [hw1]; exact (Below.refl _ _).alloc (Nat.le_refl _) _
 have hlt1 : w.heap.size < w1.heap.size := by rw [hw1]; simp
 have hst0 := Zhz.start w1;rw [show w1.heap.size = w.heap.size + 1 by rw [hw1]; simp] at hst0;have HST0 := zh (show Zhz w1 [] (.slice (some ⟨w.heap.size + 1, 0, none⟩) 0 0) ((w.alloc (.cells #[.int .i64 lo, .int .i64 hi] 180)).alloc (.cells #[] 5)) by rw [← hw1]; exact hst0);clear hst0 hw1;go_enter Tryz.func126, Tryz.ntmps126;go_wp2_with fail
 go_loopw [3, 4] (fun v i wr => ∃ (j : Nat) (o : List UInt8) (v' : Value), i = .int .i64 j ∧ v' = v ∧ j ≤ 128 ∧ Hd (o = Zcq lo hi j) ∧ Zhz w1 o v' wr) (fun _ i _ => 128 - (intOf i).toNat)
 case atStart => exact ⟨0, [], _, rfl, rfl, by omega, zh rfl, HST0.o⟩
 case round =>
  obtain ⟨j, o, v, rfl, rfl, hj, HO, hst⟩ := hrel;have hsz := hst.bel.size;have HST := zh hst;clear hst
  by_cases hlt : j < 128
  ·have t1 : decide ((j : Int) < 128) = true := nT (by omega);have hwr : IntKind.u8.wrap (j : Int) = (j : Int) := by rw [IntKind.wrap_u8]; omega
   obtain ⟨c0, c1⟩ := Zf9 ((HST.o.bel.block _ hlt1).trans HP.o);have HHB := zh (Zju lo hi (j : Int) wr (by omega) (by omega));have hol : o.length ≤ 128 := by rw [HO.o]; exact Nat.le_trans (HCL.o j) hj
   go_wp2_with fail;refine HHB.o.mono ?_;rintro e w2 ⟨rfl, hb2⟩;have HST2 := zh (HST.o.later hb2);have hsz2 := HST2.o.bel.size;clear hb2 c0 c1 HHB
   by_cases hh : hb lo hi (j : Int) = true
   ·have HO2 := zh (show o ++ [UInt8.ofNat j] = Zcq lo hi (j + 1) by rw [HSU.o, if_pos hh, HO.o]);have hcj : ((UInt8.ofNat j).toNat : Int) = (j : Int) := by rw [UInt8.toNat_ofNat', Nat.mod_eq_of_lt (by omega)]
    have HCJ := zh hcj;rw [hh];clear hh hcj
    go_wp2_with (at_builtin; refine wpList_append_own _ rfl _ _ 192 rfl w1.heap.size 5 i0 (.int .u8 0) 1 1 Tryz.underlying192 hi0 hz0 hz1 hz2 rfl (by decide) _ _ _ rfl (HST2.o.row.alloc _) ⟨w2.heap.size, 0, none⟩ 1 1 [.int .u8 (j : Int)] rfl rfl (cell_one_new _ _ _) (by simp [Value.oneCell']) (by unfold maxLen; omega) (by omega) (by simp; omega) ?_; intro v' w3 hown' hgrow hnil)
    have hst3 := HST2.o.push (UInt8.ofNat j) (j : Int) HCJ.o hown' hgrow hnil
    go_roundw
    case rel => exact ⟨j + 1, _, _, by go_num, rfl, by omega, HO2, hst3⟩
    case measure => simp [intOf]; omega
   ·have hh2 : hb lo hi (j : Int) = false := by simpa using hh
    have HO2 := zh (show o = Zcq lo hi (j + 1) by rw [HSU.o, if_neg hh, List.append_nil, HO.o]);rw [hh2];clear hh hh2;go_wp2_with fail
    go_roundw
    case rel => exact ⟨j + 1, o, _, by go_num, rfl, by omega, HO2, HST2.o⟩
    case measure => simp [intOf]; omega
  ·have t1 : decide ((j : Int) < 128) = false := nU (by omega);have hf : o = Zcq lo hi 128 := by rw [HO.o, show j = 128 by omega]
   obtain ⟨g1, cap1, hv⟩ := HST.o.form;subst hv;have e2 := HST.o.text;have HF := zh hf;clear hf;go_wp2_with fail;go_ret;refine ⟨?_, hb1.trans (Below.mono HST.o.bel hb1.size)⟩;rw [HF.o]; rfl
theorem Zey (n0 : Nat) (c : Zd) (A : Option Addr) (k CB : Nat) (n : Int) (w : World) (h : w.heap[CB]? = some (.cells #[.int .i64 c.kind, .int .i64 c.op, .int .i64 c.aB, .int .i64 c.line, .string c.text, .slice A c.kids.length k] 68 (0, 0))) : Calls Tryz.prog 137 #[.int .i64 n, .pointer (some ⟨CB, 0, none⟩)] w fun e w' => e = .returned (.bool (inB c.aB n)) ∧ w' = w := by
 obtain ⟨p, hp⟩ : ∃ b : Bool, decide (0 ≤ c.aB) = b := ⟨_, rfl⟩;obtain ⟨q, hq⟩ : ∃ b : Bool, decide (c.aB < n) = b := ⟨_, rfl⟩;unfold inB;rw [hp, hq];have c0 := cz6 h;have fc0 := fz h;clear h
 cases p <;> cases q <;>
  (go_enter Tryz.func137, Tryz.ntmps137
   go_wp2_with fail;go_ret;exact ⟨rfl, rfl⟩)
theorem Zr8 (n : Nat) (w : World) (F : Nat → Prop) (c : Zd) (A : Option Addr) (k : Nat) (W : Wd) (A1 A2 A3 : Option Addr) (e1 e2 e3 : Nat) (pm : Int) (hv : CV n F w c A k) (hW : W.nS ≤ 4194304 ∧ W.nG ≤ 4194304 ∧ W.nR ≤ 4194304 ∧ W.nC ≤ 4194304) : Calls Tryz.prog 124 #[(.agg #[.slice A1 W.nR e1, .slice A2 W.nC e2, .slice A3 W.nG e3, .int .i64 pm]), .int .i64 (W.nS : Nat), c.val A k] w fun e w' => e = .returned (.bool (Ze6 W c.kind c.aB)) ∧ Below w.heap.size w w' := by
 unfold Zd.val;obtain ⟨hW1, hW2, hW3, hW4⟩ := hW;have hlwb : Za w ((w.alloc (.cells #[.slice A1 W.nR e1, .slice A2 W.nC e2, .slice A3 W.nG e3, .int .i64 pm] 37)).alloc (.cells #[.int .i64 c.kind, .int .i64 c.op, .int .i64 c.aB, .int .i64 c.line, .string c.text, .slice A c.kids.length k] 68)) := Za.trans ((Za.refl _).alloc _) ((Za.refl _).alloc _);have HLb := zh hlwb;obtain ⟨R, hR⟩ : ∃ z, z = Ze6 W c.kind c.aB := ⟨_, rfl⟩;rw [← hR];have HR := zh hR;clear hR hlwb hv;have tS : IntKind.i64.wrap ((W.nS : Int) - 1) = (W.nS : Int) - 1 := IntWalk.i64_in _ (by omega);have tG : IntKind.i64.wrap ((W.nG : Int) - 1) = (W.nG : Int) - 1 := IntWalk.i64_in _ (by omega);have tR : IntKind.i64.wrap ((W.nR : Int) - 1) = (W.nR : Int) - 1 := IntWalk.i64_in _ (by omega);have tC : IntKind.i64.wrap ((W.nC : Int) - 1) = (W.nC : Int) - 1 := IntWalk.i64_in _ (by omega);obtain ⟨kd, hkd⟩ : ∃ z, z = c.kind := ⟨_, rfl⟩;rw [← hkd];rw [← hkd] at HR HLb
 by_cases h1 : kd = 1
 ·rw [h1] at HR HLb ⊢;clear hkd h1;obtain ⟨p, hp⟩ : ∃ b : Bool, decide (-999999999999 ≤ c.aB) = b := ⟨_, rfl⟩;obtain ⟨q, hq⟩ : ∃ b : Bool, decide (c.aB ≤ 999999999999) = b := ⟨_, rfl⟩;have hRR : R = (p && q) := by rw [HR.o, ← hp, ← hq]; rfl
  rw [hRR];clear hRR HR
  cases p <;> cases q <;>
   (go_enter Tryz.func124, Tryz.ntmps124
    go_wp2_with fail;go_ret;exact ⟨rfl, HLb.o⟩)
 by_cases h5 : kd = 5
 ·rw [h5] at HR HLb ⊢;clear hkd h5;go_enter Tryz.func124, Tryz.ntmps124;go_wp2_with fail;refine (Zd9 c.aB 0 ((W.nS : Int) - 1) _).mono ?_;rintro e w2 ⟨rfl, rfl⟩;go_wp2_with fail;go_ret;exact ⟨by rw [HR.o]; exact congrArg (fun b => Ending.returned (.bool b)) (Zk7 _ _), HLb.o⟩
 by_cases h6 : kd = 6
 ·rw [h6] at HR HLb ⊢;clear hkd h6;go_enter Tryz.func124, Tryz.ntmps124;go_wp2_with fail;refine (Zd9 c.aB 0 ((W.nG : Int) - 1) _).mono ?_;rintro e w2 ⟨rfl, rfl⟩;go_wp2_with fail;go_ret;exact ⟨by rw [HR.o]; exact congrArg (fun b => Ending.returned (.bool b)) (Zk7 _ _), HLb.o⟩
 by_cases h7 : kd = 7
 ·rw [h7] at HR HLb ⊢;clear hkd h7;go_enter Tryz.func124, Tryz.ntmps124;go_wp2_with fail;refine (Zd9 c.aB 0 ((W.nR : Int) - 1) _).mono ?_;rintro e w2 ⟨rfl, rfl⟩;go_wp2_with fail;go_ret;exact ⟨by rw [HR.o]; exact congrArg (fun b => Ending.returned (.bool b)) (Zk7 _ _), HLb.o⟩
 by_cases h8 : kd = 8
 ·rw [h8] at HR HLb ⊢;clear hkd h8;go_enter Tryz.func124, Tryz.ntmps124;go_wp2_with fail;refine (Zd9 c.aB 0 54 _).mono ?_;rintro e w2 ⟨rfl, rfl⟩;go_wp2_with fail;go_ret;exact ⟨by rw [HR.o]; exact congrArg (fun b => Ending.returned (.bool b)) (Zvf _), HLb.o⟩
 by_cases h9 : kd = 9
 ·rw [h9] at HR HLb ⊢;clear hkd h9;go_enter Tryz.func124, Tryz.ntmps124;go_wp2_with fail;refine (Zd9 c.aB 0 ((W.nC : Int) - 1) _).mono ?_;rintro e w2 ⟨rfl, rfl⟩;go_wp2_with fail;go_ret;exact ⟨by rw [HR.o]; exact congrArg (fun b => Ending.returned (.bool b)) (Zk7 _ _), HLb.o⟩
 by_cases h10 : kd = 10
 ·rw [h10] at HR HLb ⊢;clear hkd h10;go_enter Tryz.func124, Tryz.ntmps124;go_wp2_with fail;refine (Zd9 c.aB 1 2 _).mono ?_;rintro e w2 ⟨rfl, rfl⟩;go_wp2_with fail;go_ret;exact ⟨by rw [HR.o]; exact congrArg (fun b => Ending.returned (.bool b)) (Zvg _), HLb.o⟩
 have t1 : (kd == 1) = false := nH.2 h1;have t5 : (kd == 5) = false := nH.2 h5;have t6 : (kd == 6) = false := nH.2 h6;have t7 : (kd == 7) = false := nH.2 h7;have t8 : (kd == 8) = false := nH.2 h8;have t9 : (kd == 9) = false := nH.2 h9;have t10 : (kd == 10) = false := nH.2 h10;have hRR : R = (c.aB == 0) := by rw [HR.o]; simp [Ze6, h1, h5, h6, h7, h8, h9, h10]
 rw [hRR];clear hRR HR hkd h1 h5 h6 h7 h8 h9 h10;go_enter Tryz.func124, Tryz.ntmps124;go_wp2_with fail;go_ret;exact ⟨rfl, HLb.o⟩
def nuB (W : Wd) (c : Zd) (lp cr : Bool) : Bool := Ze6 W c.kind c.aB && ((!(decide (c.kind = 20) || decide (c.kind = 21)) || lp) && (!(decide (23 ≤ c.kind) && decide (c.kind ≤ 25)) || !cr))
def hd1 (c : Zd) : Bool := decide (1 ≤ c.kind) && (decide (c.kind ≤ 28) && (decide (0 ≤ c.line) && (decide (Zbw c.kind c.op ≤ c.kids.length) && (decide ((c.kids.length : Int) ≤ Zcg c.kind c.op) && (decide (c.kind = 11) || c.op == 0)))))
def Zjy (c : Zd) : Bool := !(c.op == 79) || ((c.kid 1).kind == 2 && Zba (c.kid 1).text)
def Zi4 (c : Zd) : Bool := !(c.op == 81) || ((c.kid 0).kind == 5 || (c.kid 0).kind == 6)
def hd3 (c : Zd) : Bool := Zjy c && Zi4 c
theorem Zpq (W : Wd) (c : Zd) (lp cr : Bool) : Zow W c lp cr = (hd1 c && ((tOk c.kind c.text && nuB W c lp cr) && hd3 c)) := by
 unfold Zow hd1 nuB hd3 Zjy Zi4;rw [Bool.eq_iff_iff];simp only [Bool.and_eq_true]
 constructor
 ·rintro ⟨a1, a2, a3, a4, a5, a6, a7, a8, a9, a10, a11⟩; exact ⟨⟨a1, a2, a3, a4, a5, a6⟩, ⟨a8, a7, a9, a10⟩, a11⟩
 ·rintro ⟨⟨a1, a2, a3, a4, a5, a6⟩, ⟨a8, a7, a9, a10⟩, a11⟩; exact ⟨a1, a2, a3, a4, a5, a6, a7, a8, a9, a10, a11⟩
def Zoa (W : Wd) (n : Nat) (c : Zd) (lp cr : Bool) : Bool := (List.range c.kids.length).all fun i => vC W n (c.kid i) (Zm c.kind i lp) (cr || decide (c.kind = 26))
theorem Zvh (W : Wd) (n : Nat) (c : Zd) (lp cr : Bool) : vC W (n + 1) c lp cr = (hd1 c && ((tOk c.kind c.text && nuB W c lp cr) && (hd3 c && Zoa W n c lp cr))) := by
 show (Zow W c lp cr && Zoa W n c lp cr) = _;rw [Zpq, Bool.and_assoc, Bool.and_assoc]
theorem Zr9 {W : Wd} {n : Nat} {c : Zd} {lp cr : Bool} {j : Nat} (hj : j < c.kids.length) (h : vC W n (c.kid j) (Zm c.kind j lp) (cr || decide (c.kind = 26)) = false) : Zoa W n c lp cr = false := by
 rw [← Bool.not_eq_true];intro h2;have := List.all_eq_true.1 h2 j (by simpa using hj);rw [h] at this
 cases this
theorem Zqk {W : Wd} {n : Nat} {c : Zd} {lp cr : Bool} (h : ∀ i, i < c.kids.length → vC W n (c.kid i) (Zm c.kind i lp) (cr || decide (c.kind = 26)) = true) : Zoa W n c lp cr = true :=
 List.all_eq_true.2 fun i hi => h i (by simpa using hi)
theorem Zsa : Zdn 79 = 2 := by decide +kernel
theorem Zsb : Zdn 81 = 1 := by decide +kernel
end Go.Proofs.YtcmmdchjppaimaaGreatDoor
