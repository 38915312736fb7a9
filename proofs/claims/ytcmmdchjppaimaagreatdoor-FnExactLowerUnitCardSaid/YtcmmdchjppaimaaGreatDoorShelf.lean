/-
  DERIVED: THE SHELF's CONTRACTS AT THIS DUMP, IN PLAIN WORDS (tools/lay-plain.mjs out of 'YtcmmdchjppaimaaGreatDoorShelf.lean', which tools/lay-shelf.mjs wrote): THE SAME DECLARATIONS UNDER THE SAME NAMES: 'import', 'namespace', 'open', 'def', 'theorem' AND NOTHING ELSE: no command of the shelf's: FOR A HAND-IN. Each laying: the table of numbers ('.._ren') and one theorem, a field a fact of the dump's own or the kernel's comparison; each contract: ONE APPLICATION.
-/
import Derived.Shelf.Strings.Fields
import Derived.Shelf.LaysM
import Derived.Shelf.Strings.SplitShaped
import Derived.Test.YtcmmdchjppaimaaGreatDoorProg
namespace Go.Proofs
open Go.Shelf
def Tryz.laysM157_ren : Go.Shelf.Ren := ⟨fun | 157 => 182 | 229 => 193 | 199 => 194 | 261 => 198 | 311 => 199 | 312 => 200 | n => n, fun | 9 => 9 | 31 => 24 | 3 => 3 | 5 => 5 | 4 => 4 | 119 => 224 | 0 => 0 | 40 => 226 | 152 => 228 | 21 => 21 | 154 => 230 | 51 => 231 | 141 => 233 | 196 => 237 | 193 => 234 | 198 => 240 | 49 => 238 | 194 => 235 | 201 => 243 | 226 => 245 | 46 => 222 | 227 => 246 | n => n, fun | 0 => 0 | 6 => 1 | n => n⟩
theorem Tryz.laysM157 : Go.Proofs.LaysM.n157 Tryz.prog Tryz.laysM157_ren := {
  mixed := by kernel_rfl
  f157 := Tryz.func182.trans (congrArg some (by kernel_rfl))
  f199 := Tryz.func194.trans (congrArg some (by kernel_rfl))
  f229 := Tryz.func193.trans (congrArg some (by kernel_rfl))
  f261 := Tryz.func198.trans (congrArg some (by kernel_rfl))
  f311 := Tryz.func199.trans (congrArg some (by kernel_rfl))
  f312 := Tryz.func200.trans (congrArg some (by kernel_rfl))
  t0 := Tryz.underlying0
  a0 := Tryz.isAgg0
  z0 := Tryz.sizeOf0
  v0 := Tryz.zeroValue0
  t3 := Tryz.underlying3
  a3 := Tryz.isAgg3
  z3 := Tryz.sizeOf3
  v3 := Tryz.zeroValue3
  t4 := Tryz.underlying4
  a4 := Tryz.isAgg4
  z4 := Tryz.sizeOf4
  v4 := Tryz.zeroValue4
  t5 := Tryz.underlying5
  a5 := Tryz.isAgg5
  z5 := Tryz.sizeOf5
  v5 := Tryz.zeroValue5
  t9 := Tryz.underlying9
  a9 := Tryz.isAgg9
  z9 := Tryz.sizeOf9
  v9 := Tryz.zeroValue9
  t21 := Tryz.underlying21
  a21 := Tryz.isAgg21
  z21 := Tryz.sizeOf21
  v21 := Tryz.zeroValue21
  t31 := Tryz.underlying24
  a31 := Tryz.isAgg24
  z31 := Tryz.sizeOf24
  v31 := Tryz.zeroValue24
  t40 := Tryz.underlying226
  a40 := Tryz.isAgg226
  z40 := Tryz.sizeOf226
  v40 := Tryz.zeroValue226
  t46 := Tryz.underlying222
  a46 := Tryz.isAgg222
  z46 := Tryz.sizeOf222
  v46 := Tryz.zeroValue222
  t49 := Tryz.underlying238
  a49 := Tryz.isAgg238
  z49 := Tryz.sizeOf238
  v49 := Tryz.zeroValue238
  t51 := Tryz.underlying231
  a51 := Tryz.isAgg231
  z51 := Tryz.sizeOf231
  v51 := Tryz.zeroValue231
  t119 := Tryz.underlying224
  a119 := Tryz.isAgg224
  z119 := Tryz.sizeOf224
  t141 := Tryz.underlying233
  a141 := Tryz.isAgg233
  z141 := Tryz.sizeOf233
  v141 := Tryz.zeroValue233
  t152 := Tryz.underlying228
  a152 := Tryz.isAgg228
  z152 := Tryz.sizeOf228
  v152 := Tryz.zeroValue228
  t154 := Tryz.underlying230
  a154 := Tryz.isAgg230
  z154 := Tryz.sizeOf230
  v154 := Tryz.zeroValue230
  t193 := Tryz.underlying234
  a193 := Tryz.isAgg234
  z193 := Tryz.sizeOf234
  v193 := Tryz.zeroValue234
  t194 := Tryz.underlying235
  a194 := Tryz.isAgg235
  z194 := Tryz.sizeOf235
  v194 := Tryz.zeroValue235
  t196 := Tryz.underlying237
  a196 := Tryz.isAgg237
  z196 := Tryz.sizeOf237
  v196 := Tryz.zeroValue237
  t198 := Tryz.underlying240
  a198 := Tryz.isAgg240
  z198 := Tryz.sizeOf240
  v198 := Tryz.zeroValue240
  t201 := Tryz.underlying243
  a201 := Tryz.isAgg243
  z201 := Tryz.sizeOf243
  v201 := Tryz.zeroValue243
  t226 := Tryz.underlying245
  a226 := Tryz.isAgg245
  z226 := Tryz.sizeOf245
  v226 := Tryz.zeroValue245
  t227 := Tryz.underlying246
  a227 := Tryz.isAgg246
  z227 := Tryz.sizeOf246
  v227 := Tryz.zeroValue246
  g0 := by kernel_rfl
  g6 := by kernel_rfl
  i0 := by kernel_rfl
  i3 := by kernel_rfl
  i4 := by kernel_rfl
  i5 := by kernel_rfl
  i9 := by kernel_rfl
  i21 := by kernel_rfl
  i31 := by kernel_rfl
  i40 := by kernel_rfl
  i46 := by kernel_rfl
  i49 := by kernel_rfl
  i51 := by kernel_rfl
  i141 := by kernel_rfl
  i152 := by kernel_rfl
  i154 := by kernel_rfl
  i193 := by kernel_rfl
  i194 := by kernel_rfl
  i196 := by kernel_rfl
  i198 := by kernel_rfl
  i201 := by kernel_rfl
  i226 := by kernel_rfl
  i227 := by kernel_rfl
  m0 := by kernel_rfl
  m6 := by kernel_rfl }
open Go.RowKit Go.Lib in
/-- strings.Fields on ASCII bytes. (The table: 'Lib.TabIs', as strings.TrimSpace's contract asks it.) (LAID: no walk: one application.) -/
theorem Tryz.strings_Fields_laid (s : ByteArray) (w : World) (hs : s.size < 4294967281) (hascii : ∀ (j : Nat) b, s.data.toList[j]? = some b → b.toNat < 128) (htab : Lib.TabIs Tryz.prog w "strings.asciiSpace" .u8 Lib.asciiSpaceTab) :
    Calls Tryz.prog 182 #[.string s] w fun e w' =>
      e = .returned (.slice (some ⟨w.heap.size, 0, none⟩) (Lib.fields s.data.toList).length (Lib.fields s.data.toList).length) ∧ w' = w.alloc (.cells ((Lib.fields s.data.toList).map fun l => Value.string ⟨l.toArray⟩).toArray 9) := Any.strings_Fields_laid Tryz.laysM157 s w hs hascii htab
end Go.Proofs
