/- FnExactLowerUnit returns true for every unit: its row and its tied card. No condition but what the card itself says of the two listed variables. -/
import Derived.Test.YtcmmdchjppaimaaGreatDoorS6
import Derived.Test.YtcmmdchjppaimaaGreatDoorCards
import Derived.Test.YtcmmdchjppaimaaGreatDoorTie
import Derived.ProofKit
import Derived.OpenShut
import Derived.Deep.DeepWitnessRowRef
import Derived.Lib.LaidTab
import Derived.Lay
import Derived.LaidSub
import Derived.Lib.SmallJoins
import Derived.ChangeMaps5
import Derived.Test.YtcmmdchjppaimaaGreatDoorS1
set_option maxRecDepth 1000000
set_option maxHeartbeats 40000000
namespace Go.Proofs.YtcmmdchjppaimaaGreatDoor
open Go.RowKit
section
open Go.ChangeShapes Go.WideShapes Go.ChangeAt Go.RowKit Go.Joins Go.Deep Go.ChangeMaps
theorem t_spc : (Tryz.prog.globals[0]?).map (·.type) = some 224 := by kernel_rfl
theorem c_spc : Tryz.prog.cellsOf 224 = 256 := by kernel_rfl
theorem c_u8 : Tryz.prog.cellsOf 5 = 1 := by kernel_rfl
theorem spc_of {W : World} (h : laidMetH Tryz.prog Rows.fnExactLowerUnitRow.laid W) : Spc W := by
 rw [MakeChecks.laidMetH_plain _ _ _ (by kernel_rfl)] at h;have h1 := h.filter (fun x => x.1 == "strings.asciiSpace");rw [show Rows.fnExactLowerUnitRow.laid.filter (fun x => x.1 == "strings.asciiSpace") = [("strings.asciiSpace", Lib.tabData .u8 Lib.asciiSpaceTab)] by kernel_rfl] at h1;exact Lib.tabIs_of_head (rest := []) Zfh t_spc Tryz.underlying224 Tryz.underlying5 c_u8 c_spc h1
theorem contract (H : Type) (enc : TypeId × Value → H) (W : World) (base : Nat) (args : Array Value) (ds gs : List (DataW H)) (before : List MemPlace)
  (hval : ∀ (j : Nat) t v, Tryz.f4.params[j]? = some t → args[j]? = some v → Value.okWide Tryz.prog W .any base t v)
  (hW : DataW.Whole enc Tryz.prog Tryz.f4.params.toList Rows.fnExactLowerUnitSpec.vars false W args.toList ds gs before) (hL : laidMetH Tryz.prog Rows.fnExactLowerUnitRow.laid W) :
  Calls Tryz.prog 4 args W fun e W' => ∃ v, e = .returned v ∧ Rows.fnExactLowerUnitSpec.post enc Tryz.prog Tryz.f4 false true false false W args v W' := by
 have hW' := hW;obtain ⟨p, q, hA0, hV, rfl, hfz, hnd⟩ := hW;have hA : DataW.TrodAll enc Tryz.prog W 0 (fun _ => true) true Tryz.f4.params.toList args.toList ds p := hA0;rw [Tryz.params4] at hA hval;obtain ⟨v0, vs0, d0, ds0, p0, q0, hargs, rfl, rfl, h0, r0⟩ := trodAll_cons hA;obtain ⟨rfl, rfl, rfl⟩ := trodAll_nil r0;obtain rfl : args = #[v0] := by cases args; simp_all
 have hv0 : Value.okWide Tryz.prog W .any base 46 v0 := hval 0 46 v0 (by simp) (by simp);obtain ⟨cs, rfl, _⟩ := okWide_struct Tryz.underlying46 hv0;obtain ⟨fuel, hf⟩ := h0;obtain ⟨c, hc⟩ := Zqi fuel fuel (Nat.le_succ _) _ _ hf;have hl := Zth fuel c cs.toList W hc (spc_of hL);rw [Array.toArray_toList] at hl;refine hl.mono fun e W' ⟨he, hb⟩ => ?_;subst he;exact ⟨_, rfl, Zvu Zw8 hW' rfl rfl (by kernel_rfl) Tryz.underlying4 (by kernel_rfl) hb⟩
def zeroCode : Value := .agg #[.slice none 0 0, .slice none 0 0, .slice none 0 0]
theorem laid_met (os : Os) : laidMetH Tryz.prog Rows.fnExactLowerUnitRow.laid ((World.laidAll Tryz.prog os Rows.fnExactLowerUnitRow.laid).forCall (fun _ _ => 0) ⟨#[], #[zeroCode], []⟩).memory := by
 rw [MakeChecks.laidMetH_plain _ _ _ (by kernel_rfl)];exact laidMet_laidAll _ (by kernel_rfl) (by kernel_rfl)
theorem reads (os : Os) {H : Type} (enc : TypeId × Value → H) : ∃ places, DataW.whole enc Tryz.prog ((World.laidAll Tryz.prog os Rows.fnExactLowerUnitRow.laid).forCall (fun _ _ => 0) ⟨#[], #[zeroCode], []⟩).memory Tryz.f4.params.toList Rows.fnExactLowerUnitSpec.vars false [zeroCode] 8 = some ([.agg [.nil, .nil, .nil]], [], places) :=
 ⟨[], by kernel_rfl⟩
theorem lifted (os : Os) (started : os.Started) (H : Type) (enc : TypeId × Value → H) (F : Stop.Interp) :
  ReturnsInHanded {} Tryz.checked os 4 .any ((OpenSpec.ofChange Rows.fnExactLowerUnitSpec).preRow enc Tryz.prog Tryz.f4 Rows.fnExactLowerUnitRow.domain false Rows.fnExactLowerUnitRow.laid) (((OpenSpec.ofChange Rows.fnExactLowerUnitSpec).at F).post enc Tryz.prog Tryz.f4 false true false false) := by
 obtain ⟨places, hx⟩ := reads os enc;refine returnsInHanded_of_row (C := Tryz.checked) (s := OpenSpec.ofChange Rows.fnExactLowerUnitSpec) own started (by kernel_rfl) Tryz.func4
  (witness_row_atRef (enc := enc) (C := Tryz.checked) false (World.laidAll Tryz.prog os Rows.fnExactLowerUnitRow.laid) #[zeroCode] (World.laidAll_os _ _ _) (by kernel_rfl) (by kernel_rfl) (by kernel_rfl)
   (OpenSpec.preRow_of_cond 8 hx (by kernel_rfl) (fun k hk => by cases hk) (by kernel_rfl) (laid_met os))) ?_
 intro W base args ds gs before hval hW _ _ _ hL _ _;exact contract H enc W base args ds gs before hval hW hL
theorem said : Rows.FnExactLowerUnitSaid :=
 OpenClaim.holds_of_cond 4 Tryz.f4 rfl rfl rfl rfl rfl rfl rfl ⟨rfl, rfl, rfl, rfl, rfl⟩ rfl rfl rfl rfl rfl (by kernel_rfl) Tryz.func4 (by kernel_rfl)
  (of_decide_eq_true (by kernel_rfl)) (by unfold Func.isWrapper; first | (rw [if_pos (by decide +kernel)]; kernel_rfl) | (rw [if_neg (by decide +kernel)]; exact ⟨rfl, rfl⟩))
  (fun os started H enc _ F => by rw [OpenClaim.pre_eq_preRow]; exact lifted os started H enc F)
theorem plain (f : FuncId) (fn : Func) (hf : Tryz.pinned.checked.prog.funcNamed "loop.example/g03106/laws.FnExactLowerUnit" = some f) (hfn : Tryz.pinned.checked.prog.funcs[f]? = some fn) :
  false = Tryz.pinned.checked.prog.looks [] ∧ ∀ (j : Nat) t, fn.params[j]? = some t → Tryz.pinned.checked.prog.wantsStandIn t = false := by
 obtain rfl : f = 4 := Option.some.inj ((show Tryz.prog.funcNamed "loop.example/g03106/laws.FnExactLowerUnit" = some 4 by kernel_rfl).symm.trans hf) |>.symm;obtain rfl : fn = Tryz.f4 := (Option.some.inj (Tryz.func4.symm.trans hfn)).symm;refine ⟨by kernel_rfl, fun j t ht => ?_⟩;rw [Tryz.params4] at ht;obtain rfl : t = 46 := by simpa using Array.mem_of_getElem? ht
 exact (show Tryz.prog.wantsStandIn 46 = false by kernel_rfl)
theorem lowerUnit_card : Rows.FnExactLowerUnitCardSaid :=
 Claim7.holds_tied_plain_at .later [] _ _ _ _ said (fun _ h => by cases h) (by kernel_rfl) (fun _ h => by cases h) fnExactLowerUnit_row_tie rfl ⟨rfl, rfl⟩ (by kernel_rfl) rfl plain (by kernel_rfl)
#print axioms lowerUnit_card
end
end Go.Proofs.YtcmmdchjppaimaaGreatDoor
