/- A Code is read. Printed by gen_codedata.py. -/
import Derived.Test.YtopaeiogbijppaaDoorCdData
import Derived.Test.YtopaeiogbijppaaDoorDataOpen
namespace Go.Proofs.YtopaeiogbijppaaDoor
open Go.ChangeShapes Go.WideShapes Go.ChangeAt Go.RowKit

theorem c_rowstringRecordType : Tryd.prog.cellsOf 30 = 1 := by kernel_rfl
theorem c_RecordType : Tryd.prog.cellsOf 85 = 3 := by kernel_rfl
set_option maxRecDepth 100000 in
theorem opens_RecordType : Opens 85 recordTypeEl := by
  intro H enc w spare held n cs x h
  obtain ⟨xs, m, _, _, hlen, hxl, hg⟩ := DataW.trod_struct Tryd.underlying85 h
  rw [c_RecordType] at hlen
  match cs, hlen with
  | [c0, c1, c2], _ =>
    match xs, hxl with
    | [y0, y1, y2], _ =>
      have g0 := hg 0 _ rfl
      simp [c_int, c_rowstringRecordType, c_str] at g0
      have g1 := hg 1 _ rfl
      simp [c_int, c_rowstringRecordType, c_str] at g1
      have g2 := hg 2 _ rfl
      simp [c_int, c_rowstringRecordType, c_str] at g2
      obtain ⟨r0, e0, h0⟩ := opens_str _ _ _ g0
      simp only [List.cons.injEq, and_true] at e0
      subst e0
      obtain ⟨r1, v1, e1, h1⟩ := opens_row Tryd.underlying30 c_str (by decide) strEl_is opens_str _ _ _ g1
      simp only [List.cons.injEq, and_true] at e1
      subst e1
      obtain ⟨r2, e2, h2⟩ := opens_int _ _ _ g2
      simp only [List.cons.injEq, and_true] at e2
      subst e2
      exact ⟨⟨r0, r1, r2⟩, _, rfl, h0, h1, h2⟩

theorem c_CodeRoutine : Tryd.prog.cellsOf 83 = 4 := by kernel_rfl
set_option maxRecDepth 100000 in
theorem opens_CodeRoutine : Opens 83 codeRoutineEl := by
  intro H enc w spare held n cs x h
  obtain ⟨xs, m, _, _, hlen, hxl, hg⟩ := DataW.trod_struct Tryd.underlying83 h
  rw [c_CodeRoutine] at hlen
  match cs, hlen with
  | [c0, c1, c2, c3], _ =>
    match xs, hxl with
    | [y0, y1, y2, y3], _ =>
      have g0 := hg 0 _ rfl
      simp [c_int, c_str] at g0
      have g1 := hg 1 _ rfl
      simp [c_int, c_str] at g1
      have g2 := hg 2 _ rfl
      simp [c_int, c_str] at g2
      have g3 := hg 3 _ rfl
      simp [c_int, c_str] at g3
      obtain ⟨r0, e0, h0⟩ := opens_str _ _ _ g0
      simp only [List.cons.injEq, and_true] at e0
      subst e0
      obtain ⟨r1, e1, h1⟩ := opens_int _ _ _ g1
      simp only [List.cons.injEq, and_true] at e1
      subst e1
      obtain ⟨r2, e2, h2⟩ := opens_int _ _ _ g2
      simp only [List.cons.injEq, and_true] at e2
      subst e2
      obtain ⟨r3, e3, h3⟩ := opens_int _ _ _ g3
      simp only [List.cons.injEq, and_true] at e3
      subst e3
      exact ⟨⟨r0, r1, r2, r3⟩, rfl, h0, h1, h2, h3⟩

theorem c_Instr : Tryd.prog.cellsOf 87 = 5 := by kernel_rfl
set_option maxRecDepth 100000 in
theorem opens_Instr : Opens 87 instrEl := by
  intro H enc w spare held n cs x h
  obtain ⟨xs, m, _, _, hlen, hxl, hg⟩ := DataW.trod_struct Tryd.underlying87 h
  rw [c_Instr] at hlen
  match cs, hlen with
  | [c0, c1, c2, c3, c4], _ =>
    match xs, hxl with
    | [y0, y1, y2, y3, y4], _ =>
      have g0 := hg 0 _ rfl
      simp [c_int, c_str] at g0
      have g1 := hg 1 _ rfl
      simp [c_int, c_str] at g1
      have g2 := hg 2 _ rfl
      simp [c_int, c_str] at g2
      have g3 := hg 3 _ rfl
      simp [c_int, c_str] at g3
      have g4 := hg 4 _ rfl
      simp [c_int, c_str] at g4
      obtain ⟨r0, e0, h0⟩ := opens_int _ _ _ g0
      simp only [List.cons.injEq, and_true] at e0
      subst e0
      obtain ⟨r1, e1, h1⟩ := opens_int _ _ _ g1
      simp only [List.cons.injEq, and_true] at e1
      subst e1
      obtain ⟨r2, e2, h2⟩ := opens_int _ _ _ g2
      simp only [List.cons.injEq, and_true] at e2
      subst e2
      obtain ⟨r3, e3, h3⟩ := opens_int _ _ _ g3
      simp only [List.cons.injEq, and_true] at e3
      subst e3
      obtain ⟨r4, e4, h4⟩ := opens_str _ _ _ g4
      simp only [List.cons.injEq, and_true] at e4
      subst e4
      exact ⟨⟨r0, r1, r2, r3, r4⟩, rfl, h0, h1, h2, h3, h4⟩

theorem c_rowCodeRoutineCode : Tryd.prog.cellsOf 28 = 1 := by kernel_rfl
theorem c_rowRecordTypeCode : Tryd.prog.cellsOf 29 = 1 := by kernel_rfl
theorem c_rowstringCode : Tryd.prog.cellsOf 30 = 1 := by kernel_rfl
theorem c_rowInstrCode : Tryd.prog.cellsOf 31 = 1 := by kernel_rfl
theorem c_Code : Tryd.prog.cellsOf 33 = 5 := by kernel_rfl
set_option maxRecDepth 100000 in
theorem opens_Code : Opens 33 codeEl := by
  intro H enc w spare held n cs x h
  obtain ⟨xs, m, _, _, hlen, hxl, hg⟩ := DataW.trod_struct Tryd.underlying33 h
  rw [c_Code] at hlen
  match cs, hlen with
  | [c0, c1, c2, c3, c4], _ =>
    match xs, hxl with
    | [y0, y1, y2, y3, y4], _ =>
      have g0 := hg 0 _ rfl
      simp [c_int, c_rowCodeRoutineCode, c_rowInstrCode, c_rowRecordTypeCode, c_rowstringCode] at g0
      have g1 := hg 1 _ rfl
      simp [c_int, c_rowCodeRoutineCode, c_rowInstrCode, c_rowRecordTypeCode, c_rowstringCode] at g1
      have g2 := hg 2 _ rfl
      simp [c_int, c_rowCodeRoutineCode, c_rowInstrCode, c_rowRecordTypeCode, c_rowstringCode] at g2
      have g3 := hg 3 _ rfl
      simp [c_int, c_rowCodeRoutineCode, c_rowInstrCode, c_rowRecordTypeCode, c_rowstringCode] at g3
      have g4 := hg 4 _ rfl
      simp [c_int, c_rowCodeRoutineCode, c_rowInstrCode, c_rowRecordTypeCode, c_rowstringCode] at g4
      obtain ⟨r0, v0, e0, h0⟩ := opens_row Tryd.underlying28 c_CodeRoutine (by decide) codeRoutineEl_is opens_CodeRoutine _ _ _ g0
      simp only [List.cons.injEq, and_true] at e0
      subst e0
      obtain ⟨r1, v1, e1, h1⟩ := opens_row Tryd.underlying29 c_RecordType (by decide) recordTypeEl_is opens_RecordType _ _ _ g1
      simp only [List.cons.injEq, and_true] at e1
      subst e1
      obtain ⟨r2, v2, e2, h2⟩ := opens_row Tryd.underlying30 c_str (by decide) strEl_is opens_str _ _ _ g2
      simp only [List.cons.injEq, and_true] at e2
      subst e2
      obtain ⟨r3, e3, h3⟩ := opens_int _ _ _ g3
      simp only [List.cons.injEq, and_true] at e3
      subst e3
      obtain ⟨r4, v4, e4, h4⟩ := opens_row Tryd.underlying31 c_Instr (by decide) instrEl_is opens_Instr _ _ _ g4
      simp only [List.cons.injEq, and_true] at e4
      subst e4
      exact ⟨⟨r0, r1, r2, r3, r4⟩, _, _, _, _, rfl, h0, h1, h2, h3, h4⟩
end Go.Proofs.YtopaeiogbijppaaDoor
