/- The data of a Code, as plain lists. Printed by gen_codedata.py. -/
import Derived.Test.YtopaeiogbijppaaDoorData
namespace Go.Proofs.YtopaeiogbijppaaDoor
open Go.RowKit

structure RecordTypeD where
  name : ByteArray
  fields : List ByteArray
  line : Int
def recordTypeEl : Elem RecordTypeD := fun F w r cs => ∃ vfields, cs = [.string r.name, vfields, .int .i64 r.line] ∧ r.name.size ≤ maxLen ∧ RowIs strEl 1 F w r.fields vfields ∧ In64 r.line
theorem recordTypeEl_is : IsEl recordTypeEl 3 where
  len := fun ⟨_, e, _⟩ => by rw [e]; rfl
  keep := fun ⟨vfields, e, h0, h1, h2⟩ hFG hk => ⟨vfields, e, h0, h1.keep strEl_is hFG hk, h2⟩
def szRecordTypeD (r : RecordTypeD) : Nat := r.name.size + (szRow ByteArray.size r.fields)

structure CodeRoutineD where
  name : ByteArray
  params : Int
  slots : Int
  entry : Int
def codeRoutineEl : Elem CodeRoutineD := fun _ _ r cs => cs = [.string r.name, .int .i64 r.params, .int .i64 r.slots, .int .i64 r.entry] ∧ r.name.size ≤ maxLen ∧ In64 r.params ∧ In64 r.slots ∧ In64 r.entry
theorem codeRoutineEl_is : IsEl codeRoutineEl 4 where
  len := fun ⟨e, _⟩ => by rw [e]; rfl
  keep := fun ⟨e, h0, h1, h2, h3⟩ _ _ => ⟨e, h0, h1, h2, h3⟩
def szCodeRoutineD (r : CodeRoutineD) : Nat := r.name.size

structure InstrD where
  op : Int
  a : Int
  b : Int
  line : Int
  text : ByteArray
def instrEl : Elem InstrD := fun _ _ r cs => cs = [.int .i64 r.op, .int .i64 r.a, .int .i64 r.b, .int .i64 r.line, .string r.text] ∧ In64 r.op ∧ In64 r.a ∧ In64 r.b ∧ In64 r.line ∧ r.text.size ≤ maxLen
theorem instrEl_is : IsEl instrEl 5 where
  len := fun ⟨e, _⟩ => by rw [e]; rfl
  keep := fun ⟨e, h0, h1, h2, h3, h4⟩ _ _ => ⟨e, h0, h1, h2, h3, h4⟩
def szInstrD (r : InstrD) : Nat := r.text.size

structure CodeD where
  routines : List CodeRoutineD
  records : List RecordTypeD
  globals : List ByteArray
  main : Int
  instrs : List InstrD
def codeEl : Elem CodeD := fun F w r cs => ∃ vroutines vrecords vglobals vinstrs, cs = [vroutines, vrecords, vglobals, .int .i64 r.main, vinstrs] ∧ RowIs codeRoutineEl 4 F w r.routines vroutines ∧ RowIs recordTypeEl 3 F w r.records vrecords ∧ RowIs strEl 1 F w r.globals vglobals ∧ In64 r.main ∧ RowIs instrEl 5 F w r.instrs vinstrs
theorem codeEl_is : IsEl codeEl 5 where
  len := fun ⟨_, _, _, _, e, _⟩ => by rw [e]; rfl
  keep := fun ⟨vroutines, vrecords, vglobals, vinstrs, e, h0, h1, h2, h3, h4⟩ hFG hk => ⟨vroutines, vrecords, vglobals, vinstrs, e, h0.keep codeRoutineEl_is hFG hk, h1.keep recordTypeEl_is hFG hk, h2.keep strEl_is hFG hk, h3, h4.keep instrEl_is hFG hk⟩
def szCodeD (r : CodeD) : Nat := szRow szCodeRoutineD r.routines + (szRow szRecordTypeD r.records + (szRow ByteArray.size r.globals + (szRow szInstrD r.instrs)))
end Go.Proofs.YtopaeiogbijppaaDoor
