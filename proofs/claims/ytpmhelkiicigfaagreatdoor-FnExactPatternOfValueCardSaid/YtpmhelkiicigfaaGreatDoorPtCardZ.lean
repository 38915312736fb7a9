/- FnExactPatternOfValue returns true for every Store and every arguments: its row and its tied card. No condition but what the card itself says of the listed variables. -/
import Derived.Test.YtpmhelkiicigfaaGreatDoorS6
import Derived.Test.YtpmhelkiicigfaaGreatDoorCards
import Derived.Test.YtpmhelkiicigfaaGreatDoorTie
import Derived.ProofKit
import Derived.OpenShut
import Derived.Deep.DeepWitnessRowRef
import Derived.Lib.LaidTab
import Derived.Lay
import Derived.LaidSub
import Derived.Lib.SmallJoins
import Derived.ChangeMaps5
import Derived.Test.YtpmhelkiicigfaaGreatDoorS1
set_option maxRecDepth 100000
set_option maxHeartbeats 40000000
namespace Go.Proofs.YtpmhelkiicigfaaGreatDoor
open Go.ChangeShapes Go.WideShapes Go.ChangeAt Go.RowKit Go.Joins Go.Deep Go.ChangeMaps
theorem t_spc : (Tryz.prog.globals[0]?).map (·.type) = some 205 := by kernel_rfl
theorem c_spc : Tryz.prog.cellsOf 205 = 256 := by kernel_rfl
theorem c_u8 : Tryz.prog.cellsOf 5 = 1 := by kernel_rfl
theorem t_pw : (Tryz.prog.globals[2]?).map (·.type) = some 220 := by kernel_rfl
theorem c_pw : Tryz.prog.cellsOf 220 = 20 := by kernel_rfl
theorem c_u64 : Tryz.prog.cellsOf 202 = 1 := by kernel_rfl
/-- What the row's list gives: the table of spaces, the powers of ten. -/
theorem spc_of {W : World} (h : laidMetH Tryz.prog Rows.fnExactPatternOfValueRow.laid W) : Spc W := by
 rw [MakeChecks.laidMetH_plain _ _ _ (by kernel_rfl)] at h;have h1 := h.filter (fun x => x.1 == "strings.asciiSpace");rw [show Rows.fnExactPatternOfValueRow.laid.filter (fun x => x.1 == "strings.asciiSpace") = [("strings.asciiSpace", Lib.tabData .u8 Lib.asciiSpaceTab)] by kernel_rfl] at h1;exact Lib.tabIs_of_head (rest := []) Zpn t_spc Tryz.underlying205 Tryz.underlying5 c_u8 c_spc h1
theorem pw_of {W : World} (h : laidMetH Tryz.prog Rows.fnExactPatternOfValueRow.laid W) : Pw W := by
 rw [MakeChecks.laidMetH_plain _ _ _ (by kernel_rfl)] at h;have h1 := h.filter (fun x => x.1 == "internal/strconv.uint64pow10");rw [show Rows.fnExactPatternOfValueRow.laid.filter (fun x => x.1 == "internal/strconv.uint64pow10") = [("internal/strconv.uint64pow10", Lib.tabData .u64 Lib.pow10Tab)] by kernel_rfl] at h1;exact Lib.tabIs_of_head (rest := []) Zv8 t_pw Tryz.underlying220 Tryz.underlying202 c_u64 c_pw h1
theorem contract (H : Type) (enc : TypeId × Value → H) (W : World) (base : Nat) (args : Array Value) (ds gs : List (DataW H)) (before : List MemPlace)
  (hval : ∀ (j : Nat) t v, Tryz.f4.params[j]? = some t → args[j]? = some v → Value.okWide Tryz.prog W .any base t v)
  (hW : DataW.Whole enc Tryz.prog Tryz.f4.params.toList Rows.fnExactPatternOfValueSpec.vars false W args.toList ds gs before) (hL : laidMetH Tryz.prog Rows.fnExactPatternOfValueRow.laid W) :
  Calls Tryz.prog 4 args W fun e W' => ∃ v, e = .returned v ∧ Rows.fnExactPatternOfValueSpec.post enc Tryz.prog Tryz.f4 false true false false W args v W' := by
 have hW' := hW;obtain ⟨p, q, hA0, hV, rfl, hfz, hnd⟩ := hW;have hA : DataW.TrodAll enc Tryz.prog W 0 (fun _ => true) true Tryz.f4.params.toList args.toList ds p := hA0;rw [Tryz.params4] at hA hval;obtain ⟨v0, vs0, d0, ds0, p0, q0, hargs, rfl, rfl, h0, r0⟩ := trodAll_cons hA;obtain ⟨v1, vs1, d1, ds1, p1, q1, rfl, rfl, rfl, h1, r1⟩ := trodAll_cons r0;obtain ⟨rfl, rfl, rfl⟩ := trodAll_nil r1;obtain rfl : args = #[v0, v1] := by cases args; simp_all
 obtain ⟨cs, rfl, _⟩ := okWide_struct Tryz.underlying47 (hval 0 47 v0 (by simp) (by simp));obtain ⟨xs, rfl, _⟩ := okWide_struct Tryz.underlying50 (hval 1 50 v1 (by simp) (by simp));obtain ⟨f0, hf0⟩ := h0;obtain ⟨f1, hf1⟩ := h1;obtain ⟨r, hr⟩ := Zpe _ _ _ hf0;obtain ⟨x, hx⟩ := Zff _ _ _ hf1;obtain rfl : xs = #[.int .i64 x.kind, .int .i64 x.aH, .int .i64 x.index, .string x.text, .int .i64 x.set_.low, .int .i64 x.set_.high] := Array.toList_inj.1 (show xs.toList = (#[.int .i64 x.kind, .int .i64 x.aH, .int .i64 x.index, .string x.text, .int .i64 x.set_.low, .int .i64 x.set_.high] : Array Value).toList from hx.1);have hl := Zsp r cs.toList W x hr hx (spc_of hL) (pw_of hL);rw [Array.toArray_toList] at hl;refine hl.mono fun e W' ⟨he, hb⟩ => ?_;subst he;exact ⟨_, rfl, Zuq Zvm hW' rfl rfl (by kernel_rfl) Tryz.underlying4 (by kernel_rfl) hb⟩
/-- The witness' arguments: nothing. -/
def zeroArgs : Array Value := #[.agg #[.slice none 0 0, .slice none 0 0, .slice none 0 0, .slice none 0 0, .string ⟨#[]⟩, .int .i64 0, .slice none 0 0, .slice none 0 0, .slice none 0 0, .bool false, .int .i64 0, .int .i64 0, .int .i64 0], .agg #[.int .i64 0, .int .i64 0, .int .i64 0, .string ⟨#[]⟩, .int .i64 0, .int .i64 0]]
theorem laid_met (os : Os) : laidMetH Tryz.prog Rows.fnExactPatternOfValueRow.laid ((World.laidAll Tryz.prog os Rows.fnExactPatternOfValueRow.laid).forCall (fun _ _ => 0) ⟨#[], zeroArgs, []⟩).memory := by
 rw [MakeChecks.laidMetH_plain _ _ _ (by kernel_rfl)];exact laidMet_laidAll _ (by kernel_rfl) (by kernel_rfl)
theorem reads (os : Os) {H : Type} (enc : TypeId × Value → H) : ∃ places, DataW.whole enc Tryz.prog ((World.laidAll Tryz.prog os Rows.fnExactPatternOfValueRow.laid).forCall (fun _ _ => 0) ⟨#[], zeroArgs, []⟩).memory Tryz.f4.params.toList Rows.fnExactPatternOfValueSpec.vars false zeroArgs.toList 8 = some ([.agg [.nil, .nil, .nil, .nil, .lit (.string []), .lit (.int .i64 0), .nil, .nil, .nil, .lit (.bool false), .lit (.int .i64 0), .lit (.int .i64 0), .lit (.int .i64 0)], .agg [.lit (.int .i64 0), .lit (.int .i64 0), .lit (.int .i64 0), .lit (.string []), .agg [.lit (.int .i64 0), .lit (.int .i64 0)]]], [], places) :=
 ⟨[], by kernel_rfl⟩
theorem lifted (os : Os) (started : os.Started) (H : Type) (enc : TypeId × Value → H) (F : Stop.Interp) :
  ReturnsInHanded {} Tryz.checked os 4 .any ((OpenSpec.ofChange Rows.fnExactPatternOfValueSpec).preRow enc Tryz.prog Tryz.f4 Rows.fnExactPatternOfValueRow.domain false Rows.fnExactPatternOfValueRow.laid) (((OpenSpec.ofChange Rows.fnExactPatternOfValueSpec).at F).post enc Tryz.prog Tryz.f4 false true false false) := by
 obtain ⟨places, hx⟩ := reads os enc;refine returnsInHanded_of_row (C := Tryz.checked) (s := OpenSpec.ofChange Rows.fnExactPatternOfValueSpec) own started (by kernel_rfl) Tryz.func4
  (witness_row_atRef (enc := enc) (C := Tryz.checked) false (World.laidAll Tryz.prog os Rows.fnExactPatternOfValueRow.laid) zeroArgs (World.laidAll_os _ _ _) (by kernel_rfl) (by kernel_rfl) (by kernel_rfl)
   (OpenSpec.preRow_of_cond 8 hx (by kernel_rfl) (fun k hk => by cases hk) (by kernel_rfl) (laid_met os))) ?_
 intro W base args ds gs before hval hW _ _ _ hL _ _;exact contract H enc W base args ds gs before hval hW hL
theorem said : Rows.FnExactPatternOfValueSaid :=
 OpenClaim.holds_of_cond 4 Tryz.f4 rfl rfl rfl rfl rfl rfl rfl ⟨rfl, rfl, rfl, rfl, rfl⟩ rfl rfl rfl rfl rfl (by kernel_rfl) Tryz.func4 (by kernel_rfl)
  (of_decide_eq_true (by kernel_rfl)) (by unfold Func.isWrapper; first | (rw [if_pos (by decide +kernel)]; kernel_rfl) | (rw [if_neg (by decide +kernel)]; exact ⟨rfl, rfl⟩))
  (fun os started H enc _ F => by rw [OpenClaim.pre_eq_preRow]; exact lifted os started H enc F)
/-- No parameter wants a stand-in; the program's own looks are off. -/
theorem plain (f : FuncId) (fn : Func) (hf : Tryz.pinned.checked.prog.funcNamed "loop.example/g03106/laws.FnExactPatternOfValue" = some f) (hfn : Tryz.pinned.checked.prog.funcs[f]? = some fn) :
  false = Tryz.pinned.checked.prog.looks [] ∧ ∀ (j : Nat) t, fn.params[j]? = some t → Tryz.pinned.checked.prog.wantsStandIn t = false := by
 obtain rfl : f = 4 := Option.some.inj ((show Tryz.prog.funcNamed "loop.example/g03106/laws.FnExactPatternOfValue" = some 4 by kernel_rfl).symm.trans hf) |>.symm;obtain rfl : fn = Tryz.f4 := (Option.some.inj (Tryz.func4.symm.trans hfn)).symm;refine ⟨by kernel_rfl, fun j t ht => ?_⟩;rw [Tryz.params4] at ht;have ht' := Array.mem_of_getElem? ht;simp only [List.mem_toArray, List.mem_cons, List.not_mem_nil, or_false] at ht'
 rcases ht' with rfl | rfl
 ·exact (show Tryz.prog.wantsStandIn 47 = false by kernel_rfl)
 ·exact (show Tryz.prog.wantsStandIn 50 = false by kernel_rfl)
/-- The tied card. -/
theorem patternOfValue_card : Rows.FnExactPatternOfValueCardSaid :=
 Claim7.holds_tied_plain_at .later [] _ _ _ _ said (fun _ h => by cases h) (by kernel_rfl) (fun _ h => by cases h) fnExactPatternOfValue_row_tie rfl ⟨rfl, rfl⟩ (by kernel_rfl) rfl plain (by kernel_rfl)
#print axioms patternOfValue_card
end Go.Proofs.YtpmhelkiicigfaaGreatDoor
