/- What a valid instruction is, plain. Printed by gen_instr.py. -/
import Derived.Test.YtopaeiogbijppaaDoorOpAr
import Derived.Test.YtopaeiogbijppaaDoorCsI
namespace Go.Proofs.YtopaeiogbijppaaDoor
open Go.RowKit

def inB (a n : Int) : Bool := decide (0 ≤ a) && decide (a < n)
def isLab (op : Int) : Bool := op == 13 || (op == 15 || (op == 17 || (op == 19 || op == 27)))
def aOk (nR nC nG nI : Nat) (op a : Int) : Bool :=
  if op = 1 then decide (-999999999999 ≤ a) && decide (a ≤ 999999999999) else if op = 5 then inB a 24 else if op = 6 then inB a nG else if op = 7 then inB a nR else if op = 8 then inB a 55 else if op = 9 then inB a nC
  else if op = 10 then (a == 1) || (a == 2) else if op = 11 then decide (arLo a ≤ arHi a) else if isLab op then inB a nI || (op == 13 && a == -1) else a == 0
def bOk (op a b : Int) : Bool := if op = 11 then decide (arLo a ≤ b) && decide (b ≤ arHi a) else if op = 12 then decide (1 ≤ b) && decide (b ≤ 9) else b == 0
def tOk (op : Int) (text : ByteArray) : Bool := if op = 2 then decide ((text.size : Int) ≤ 120) else if op = 3 then csOk (bl text) else text.toList == []
/-- A valid instruction among so many routines, records, globals and instructions. -/
def insOk (nR nC nG nI : Nat) (op a b line : Int) (text : ByteArray) : Bool := decide (1 ≤ op) && (decide (op ≤ 30) && (decide (0 ≤ line) && (aOk nR nC nG nI op a && (bOk op a b && tOk op text))))
theorem insOk_op {nR nC nG nI : Nat} {op a b line : Int} {text : ByteArray} (h : op < 1 ∨ 30 < op ∨ line < 0) : insOk nR nC nG nI op a b line text = false := by
  unfold insOk
  rcases h with h | h | h
  · rw [show decide (1 ≤ op) = false from decide_eq_false (by omega)]; rfl
  · rw [show decide (op ≤ 30) = false from decide_eq_false (by omega), Bool.false_and, Bool.and_false]
  · rw [show decide (0 ≤ line) = false from decide_eq_false (by omega), Bool.false_and, Bool.and_false, Bool.and_false]
end Go.Proofs.YtopaeiogbijppaaDoor
