/- Part of the walks that the claim stands on. -/
import Derived.Test.YtcmmdchjppaimaaGreatDoorS3
import Derived.Test.YtcmmdchjppaimaaGreatDoorS2
import Derived.Test.YtcmmdchjppaimaaGreatDoorS1
import Derived.Deep.DeepCutAuto
set_option maxRecDepth 1000000
set_option maxHeartbeats 40000000
namespace Go.Proofs.YtcmmdchjppaimaaGreatDoor
open Go.RowKit
section
def FrC (WB CB : Nat) (lp cr : Bool) (lo hi : Int) (v11 v12 v13 : Value) (a : Act) : Prop := Fr 219 [(2, .bool lp), (3, .bool cr), (4, .pointer (some ⟨WB, 0, none⟩)), (5, .pointer (some ⟨CB, 0, none⟩)), (8, .bool false), (9, .int .i64 lo), (10, .int .i64 hi), (11, v11), (12, v12), (13, v13)] a
section
variable {WB CB : Nat} {lp cr : Bool} {lo hi : Int} {v11 v12 v13 : Value} {a : Act}
theorem FrC.opn (h : FrC WB CB lp cr lo hi v11 v12 v13 a) : ∃ f : Nat → Value, a = ⟨#[f 0, f 1, .bool lp, .bool cr, .pointer (some ⟨WB, 0, none⟩), .pointer (some ⟨CB, 0, none⟩), f 6, f 7, .bool false, .int .i64 lo, .int .i64 hi, v11, v12, v13, f 14, f 15, f 16, f 17, f 18, f 19, f 20, f 21, f 22, f 23, f 24, f 25, f 26, f 27, f 28, f 29, f 30, f 31, f 32, f 33, f 34, f 35, f 36, f 37, f 38, f 39, f 40, f 41, f 42, f 43, f 44, f 45, f 46, f 47, f 48, f 49, f 50, f 51, f 52, f 53, f 54, f 55, f 56, f 57, f 58, f 59, f 60, f 61, f 62, f 63, f 64, f 65, f 66, f 67, f 68, f 69, f 70, f 71, f 72, f 73, f 74, f 75, f 76, f 77, f 78, f 79, f 80, f 81, f 82, f 83, f 84, f 85, f 86, f 87, f 88, f 89, f 90, f 91, f 92, f 93, f 94, f 95, f 96, f 97, f 98, f 99, f 100, f 101, f 102, f 103, f 104, f 105, f 106, f 107, f 108, f 109, f 110, f 111, f 112, f 113, f 114, f 115, f 116, f 117, f 118, f 119, f 120, f 121, f 122, f 123, f 124, f 125, f 126, f 127, f 128, f 129, f 130, f 131, f 132, f 133, f 134, f 135, f 136, f 137, f 138, f 139, f 140, f 141, f 142, f 143, f 144, f 145, f 146, f 147, f 148, f 149, f 150, f 151, f 152, f 153, f 154, f 155, f 156, f 157, f 158, f 159, f 160, f 161, f 162, f 163, f 164, f 165, f 166, f 167, f 168, f 169, f 170, f 171, f 172, f 173, f 174, f 175, f 176, f 177, f 178, f 179, f 180, f 181, f 182, f 183, f 184, f 185, f 186, f 187, f 188, f 189, f 190, f 191, f 192, f 193, f 194, f 195, f 196, f 197, f 198, f 199, f 200, f 201, f 202, f 203, f 204, f 205, f 206, f 207, f 208, f 209, f 210, f 211, f 212, f 213, f 214, f 215, f 216, f 217, f 218], []⟩ := by
 obtain ⟨f, e, hf⟩ := Fr.lit h;obtain ⟨h2, h3, h4, h5, h8, h9, h10, h11, h12, h13, -⟩ := h.has;refine ⟨f, e.trans ?_⟩;have k2 := Zf h2 (hf 2 (by omega));have k3 := Zf h3 (hf 3 (by omega));have k4 := Zf h4 (hf 4 (by omega));have k5 := Zf h5 (hf 5 (by omega));have k8 := Zf h8 (hf 8 (by omega));have k9 := Zf h9 (hf 9 (by omega));have k10 := Zf h10 (hf 10 (by omega));have k11 := Zf h11 (hf 11 (by omega));have k12 := Zf h12 (hf 12 (by omega));have k13 := Zf h13 (hf 13 (by omega));rw [← k2];rw [← k3];rw [← k4];rw [← k5];rw [← k8];rw [← k9];rw [← k10];rw [← k11];rw [← k12];rw [← k13]
 rfl
theorem FrC.mk' {A : Array Value} (hs : A.size = 219) (h2 : A[2]? = some (.bool lp)) (h3 : A[3]? = some (.bool cr)) (h4 : A[4]? = some (.pointer (some ⟨WB, 0, none⟩))) (h5 : A[5]? = some (.pointer (some ⟨CB, 0, none⟩))) (h8 : A[8]? = some (.bool false)) (h9 : A[9]? = some (.int .i64 lo)) (h10 : A[10]? = some (.int .i64 hi)) (h11 : A[11]? = some (v11)) (h12 : A[12]? = some (v12)) (h13 : A[13]? = some (v13)) : FrC WB CB lp cr lo hi v11 v12 v13 ⟨A, []⟩ := ⟨hs, rfl, h2, h3, h4, h5, h8, h9, h10, h11, h12, h13, trivial⟩
end
def FrA (WB CB : Nat) (lp cr : Bool) (lo hi : Int) (v11 v12 v13 : Value) (tt : Bool) (a : Act) : Prop := Fr 219 [(2, .bool lp), (3, .bool cr), (4, .pointer (some ⟨WB, 0, none⟩)), (5, .pointer (some ⟨CB, 0, none⟩)), (8, .bool false), (9, .int .i64 lo), (10, .int .i64 hi), (11, v11), (12, v12), (13, v13), (58, .bool tt)] a
section
variable {WB CB : Nat} {lp cr : Bool} {lo hi : Int} {v11 v12 v13 : Value} {tt : Bool} {a : Act}
theorem FrA.opn (h : FrA WB CB lp cr lo hi v11 v12 v13 tt a) : ∃ f : Nat → Value, a = ⟨#[f 0, f 1, .bool lp, .bool cr, .pointer (some ⟨WB, 0, none⟩), .pointer (some ⟨CB, 0, none⟩), f 6, f 7, .bool false, .int .i64 lo, .int .i64 hi, v11, v12, v13, f 14, f 15, f 16, f 17, f 18, f 19, f 20, f 21, f 22, f 23, f 24, f 25, f 26, f 27, f 28, f 29, f 30, f 31, f 32, f 33, f 34, f 35, f 36, f 37, f 38, f 39, f 40, f 41, f 42, f 43, f 44, f 45, f 46, f 47, f 48, f 49, f 50, f 51, f 52, f 53, f 54, f 55, f 56, f 57, .bool tt, f 59, f 60, f 61, f 62, f 63, f 64, f 65, f 66, f 67, f 68, f 69, f 70, f 71, f 72, f 73, f 74, f 75, f 76, f 77, f 78, f 79, f 80, f 81, f 82, f 83, f 84, f 85, f 86, f 87, f 88, f 89, f 90, f 91, f 92, f 93, f 94, f 95, f 96, f 97, f 98, f 99, f 100, f 101, f 102, f 103, f 104, f 105, f 106, f 107, f 108, f 109, f 110, f 111, f 112, f 113, f 114, f 115, f 116, f 117, f 118, f 119, f 120, f 121, f 122, f 123, f 124, f 125, f 126, f 127, f 128, f 129, f 130, f 131, f 132, f 133, f 134, f 135, f 136, f 137, f 138, f 139, f 140, f 141, f 142, f 143, f 144, f 145, f 146, f 147, f 148, f 149, f 150, f 151, f 152, f 153, f 154, f 155, f 156, f 157, f 158, f 159, f 160, f 161, f 162, f 163, f 164, f 165, f 166, f 167, f 168, f 169, f 170, f 171, f 172, f 173, f 174, f 175, f 176, f 177, f 178, f 179, f 180, f 181, f 182, f 183, f 184, f 185, f 186, f 187, f 188, f 189, f 190, f 191, f 192, f 193, f 194, f 195, f 196, f 197, f 198, f 199, f 200, f 201, f 202, f 203, f 204, f 205, f 206, f 207, f 208, f 209, f 210, f 211, f 212, f 213, f 214, f 215, f 216, f 217, f 218], []⟩ := by
 obtain ⟨f, e, hf⟩ := Fr.lit h;obtain ⟨h2, h3, h4, h5, h8, h9, h10, h11, h12, h13, h58, -⟩ := h.has;refine ⟨f, e.trans ?_⟩;have k2 := Zf h2 (hf 2 (by omega));have k3 := Zf h3 (hf 3 (by omega));have k4 := Zf h4 (hf 4 (by omega));have k5 := Zf h5 (hf 5 (by omega));have k8 := Zf h8 (hf 8 (by omega));have k9 := Zf h9 (hf 9 (by omega));have k10 := Zf h10 (hf 10 (by omega));have k11 := Zf h11 (hf 11 (by omega));have k12 := Zf h12 (hf 12 (by omega));have k13 := Zf h13 (hf 13 (by omega));have k58 := Zf h58 (hf 58 (by omega));rw [← k2];rw [← k3];rw [← k4];rw [← k5];rw [← k8];rw [← k9];rw [← k10];rw [← k11];rw [← k12];rw [← k13];rw [← k58]
 rfl
theorem FrA.mk' {A : Array Value} (hs : A.size = 219) (h2 : A[2]? = some (.bool lp)) (h3 : A[3]? = some (.bool cr)) (h4 : A[4]? = some (.pointer (some ⟨WB, 0, none⟩))) (h5 : A[5]? = some (.pointer (some ⟨CB, 0, none⟩))) (h8 : A[8]? = some (.bool false)) (h9 : A[9]? = some (.int .i64 lo)) (h10 : A[10]? = some (.int .i64 hi)) (h11 : A[11]? = some (v11)) (h12 : A[12]? = some (v12)) (h13 : A[13]? = some (v13)) (h58 : A[58]? = some (.bool tt)) : FrA WB CB lp cr lo hi v11 v12 v13 tt ⟨A, []⟩ := ⟨hs, rfl, h2, h3, h4, h5, h8, h9, h10, h11, h12, h13, h58, trivial⟩
end
def FrB (WB CB : Nat) (lp cr : Bool) (lo hi : Int) (v11 v12 v13 : Value) (tt : Bool) (a : Act) : Prop := Fr 219 [(2, .bool lp), (3, .bool cr), (4, .pointer (some ⟨WB, 0, none⟩)), (5, .pointer (some ⟨CB, 0, none⟩)), (8, .bool false), (9, .int .i64 lo), (10, .int .i64 hi), (11, v11), (12, v12), (13, v13), (168, .bool tt)] a
section
variable {WB CB : Nat} {lp cr : Bool} {lo hi : Int} {v11 v12 v13 : Value} {tt : Bool} {a : Act}
theorem FrB.opn (h : FrB WB CB lp cr lo hi v11 v12 v13 tt a) : ∃ f : Nat → Value, a = ⟨#[f 0, f 1, .bool lp, .bool cr, .pointer (some ⟨WB, 0, none⟩), .pointer (some ⟨CB, 0, none⟩), f 6, f 7, .bool false, .int .i64 lo, .int .i64 hi, v11, v12, v13, f 14, f 15, f 16, f 17, f 18, f 19, f 20, f 21, f 22, f 23, f 24, f 25, f 26, f 27, f 28, f 29, f 30, f 31, f 32, f 33, f 34, f 35, f 36, f 37, f 38, f 39, f 40, f 41, f 42, f 43, f 44, f 45, f 46, f 47, f 48, f 49, f 50, f 51, f 52, f 53, f 54, f 55, f 56, f 57, f 58, f 59, f 60, f 61, f 62, f 63, f 64, f 65, f 66, f 67, f 68, f 69, f 70, f 71, f 72, f 73, f 74, f 75, f 76, f 77, f 78, f 79, f 80, f 81, f 82, f 83, f 84, f 85, f 86, f 87, f 88, f 89, f 90, f 91, f 92, f 93, f 94, f 95, f 96, f 97, f 98, f 99, f 100, f 101, f 102, f 103, f 104, f 105, f 106, f 107, f 108, f 109, f 110, f 111, f 112, f 113, f 114, f 115, f 116, f 117, f 118, f 119, f 120, f 121, f 122, f 123, f 124, f 125, f 126, f 127, f 128, f 129, f 130, f 131, f 132, f 133, f 134, f 135, f 136, f 137, f 138, f 139, f 140, f 141, f 142, f 143, f 144, f 145, f 146, f 147, f 148, f 149, f 150, f 151, f 152, f 153, f 154, f 155, f 156, f 157, f 158, f 159, f 160, f 161, f 162, f 163, f 164, f 165, f 166, f 167, .bool tt, f 169, f 170, f 171, f 172, f 173, f 174, f 175, f 176, f 177, f 178, f 179, f 180, f 181, f 182, f 183, f 184, f 185, f 186, f 187, f 188, f 189, f 190, f 191, f 192, f 193, f 194, f 195, f 196, f 197, f 198, f 199, f 200, f 201, f 202, f 203, f 204, f 205, f 206, f 207, f 208, f 209, f 210, f 211, f 212, f 213, f 214, f 215, f 216, f 217, f 218], []⟩ := by
 obtain ⟨f, e, hf⟩ := Fr.lit h;obtain ⟨h2, h3, h4, h5, h8, h9, h10, h11, h12, h13, h168, -⟩ := h.has;refine ⟨f, e.trans ?_⟩;have k2 := Zf h2 (hf 2 (by omega));have k3 := Zf h3 (hf 3 (by omega));have k4 := Zf h4 (hf 4 (by omega));have k5 := Zf h5 (hf 5 (by omega));have k8 := Zf h8 (hf 8 (by omega));have k9 := Zf h9 (hf 9 (by omega));have k10 := Zf h10 (hf 10 (by omega));have k11 := Zf h11 (hf 11 (by omega));have k12 := Zf h12 (hf 12 (by omega));have k13 := Zf h13 (hf 13 (by omega));have k168 := Zf h168 (hf 168 (by omega));rw [← k2];rw [← k3];rw [← k4];rw [← k5];rw [← k8];rw [← k9];rw [← k10];rw [← k11];rw [← k12];rw [← k13];rw [← k168]
 rfl
theorem FrB.mk' {A : Array Value} (hs : A.size = 219) (h2 : A[2]? = some (.bool lp)) (h3 : A[3]? = some (.bool cr)) (h4 : A[4]? = some (.pointer (some ⟨WB, 0, none⟩))) (h5 : A[5]? = some (.pointer (some ⟨CB, 0, none⟩))) (h8 : A[8]? = some (.bool false)) (h9 : A[9]? = some (.int .i64 lo)) (h10 : A[10]? = some (.int .i64 hi)) (h11 : A[11]? = some (v11)) (h12 : A[12]? = some (v12)) (h13 : A[13]? = some (v13)) (h168 : A[168]? = some (.bool tt)) : FrB WB CB lp cr lo hi v11 v12 v13 tt ⟨A, []⟩ := ⟨hs, rfl, h2, h3, h4, h5, h8, h9, h10, h11, h12, h13, h168, trivial⟩
end
def FrD (WB CB : Nat) (lp cr : Bool) (lo hi : Int) (v11 v12 v13 : Value) (tt : Bool) (a : Act) : Prop := Fr 219 [(2, .bool lp), (3, .bool cr), (4, .pointer (some ⟨WB, 0, none⟩)), (5, .pointer (some ⟨CB, 0, none⟩)), (8, .bool false), (9, .int .i64 lo), (10, .int .i64 hi), (11, v11), (12, v12), (13, v13), (187, .bool tt)] a
section
variable {WB CB : Nat} {lp cr : Bool} {lo hi : Int} {v11 v12 v13 : Value} {tt : Bool} {a : Act}
theorem FrD.opn (h : FrD WB CB lp cr lo hi v11 v12 v13 tt a) : ∃ f : Nat → Value, a = ⟨#[f 0, f 1, .bool lp, .bool cr, .pointer (some ⟨WB, 0, none⟩), .pointer (some ⟨CB, 0, none⟩), f 6, f 7, .bool false, .int .i64 lo, .int .i64 hi, v11, v12, v13, f 14, f 15, f 16, f 17, f 18, f 19, f 20, f 21, f 22, f 23, f 24, f 25, f 26, f 27, f 28, f 29, f 30, f 31, f 32, f 33, f 34, f 35, f 36, f 37, f 38, f 39, f 40, f 41, f 42, f 43, f 44, f 45, f 46, f 47, f 48, f 49, f 50, f 51, f 52, f 53, f 54, f 55, f 56, f 57, f 58, f 59, f 60, f 61, f 62, f 63, f 64, f 65, f 66, f 67, f 68, f 69, f 70, f 71, f 72, f 73, f 74, f 75, f 76, f 77, f 78, f 79, f 80, f 81, f 82, f 83, f 84, f 85, f 86, f 87, f 88, f 89, f 90, f 91, f 92, f 93, f 94, f 95, f 96, f 97, f 98, f 99, f 100, f 101, f 102, f 103, f 104, f 105, f 106, f 107, f 108, f 109, f 110, f 111, f 112, f 113, f 114, f 115, f 116, f 117, f 118, f 119, f 120, f 121, f 122, f 123, f 124, f 125, f 126, f 127, f 128, f 129, f 130, f 131, f 132, f 133, f 134, f 135, f 136, f 137, f 138, f 139, f 140, f 141, f 142, f 143, f 144, f 145, f 146, f 147, f 148, f 149, f 150, f 151, f 152, f 153, f 154, f 155, f 156, f 157, f 158, f 159, f 160, f 161, f 162, f 163, f 164, f 165, f 166, f 167, f 168, f 169, f 170, f 171, f 172, f 173, f 174, f 175, f 176, f 177, f 178, f 179, f 180, f 181, f 182, f 183, f 184, f 185, f 186, .bool tt, f 188, f 189, f 190, f 191, f 192, f 193, f 194, f 195, f 196, f 197, f 198, f 199, f 200, f 201, f 202, f 203, f 204, f 205, f 206, f 207, f 208, f 209, f 210, f 211, f 212, f 213, f 214, f 215, f 216, f 217, f 218], []⟩ := by
 obtain ⟨f, e, hf⟩ := Fr.lit h;obtain ⟨h2, h3, h4, h5, h8, h9, h10, h11, h12, h13, h187, -⟩ := h.has;refine ⟨f, e.trans ?_⟩;have k2 := Zf h2 (hf 2 (by omega));have k3 := Zf h3 (hf 3 (by omega));have k4 := Zf h4 (hf 4 (by omega));have k5 := Zf h5 (hf 5 (by omega));have k8 := Zf h8 (hf 8 (by omega));have k9 := Zf h9 (hf 9 (by omega));have k10 := Zf h10 (hf 10 (by omega));have k11 := Zf h11 (hf 11 (by omega));have k12 := Zf h12 (hf 12 (by omega));have k13 := Zf h13 (hf 13 (by omega));have k187 := Zf h187 (hf 187 (by omega));rw [← k2];rw [← k3];rw [← k4];rw [← k5];rw [← k8];rw [← k9];rw [← k10];rw [← k11];rw [← k12];rw [← k13];rw [← k187]
 rfl
theorem FrD.mk' {A : Array Value} (hs : A.size = 219) (h2 : A[2]? = some (.bool lp)) (h3 : A[3]? = some (.bool cr)) (h4 : A[4]? = some (.pointer (some ⟨WB, 0, none⟩))) (h5 : A[5]? = some (.pointer (some ⟨CB, 0, none⟩))) (h8 : A[8]? = some (.bool false)) (h9 : A[9]? = some (.int .i64 lo)) (h10 : A[10]? = some (.int .i64 hi)) (h11 : A[11]? = some (v11)) (h12 : A[12]? = some (v12)) (h13 : A[13]? = some (v13)) (h187 : A[187]? = some (.bool tt)) : FrD WB CB lp cr lo hi v11 v12 v13 tt ⟨A, []⟩ := ⟨hs, rfl, h2, h3, h4, h5, h8, h9, h10, h11, h12, h13, h187, trivial⟩
end
def FrK (WB CB : Nat) (lp cr : Bool) (lo hi : Int) (v11 v12 v13 : Value) (kd : Int) (a : Act) : Prop := Fr 219 [(2, .bool lp), (3, .bool cr), (4, .pointer (some ⟨WB, 0, none⟩)), (5, .pointer (some ⟨CB, 0, none⟩)), (8, .bool false), (9, .int .i64 lo), (10, .int .i64 hi), (11, v11), (12, v12), (13, v13), (67, .int .i64 kd)] a
section
variable {WB CB : Nat} {lp cr : Bool} {lo hi : Int} {v11 v12 v13 : Value} {kd : Int} {a : Act}
theorem FrK.opn (h : FrK WB CB lp cr lo hi v11 v12 v13 kd a) : ∃ f : Nat → Value, a = ⟨#[f 0, f 1, .bool lp, .bool cr, .pointer (some ⟨WB, 0, none⟩), .pointer (some ⟨CB, 0, none⟩), f 6, f 7, .bool false, .int .i64 lo, .int .i64 hi, v11, v12, v13, f 14, f 15, f 16, f 17, f 18, f 19, f 20, f 21, f 22, f 23, f 24, f 25, f 26, f 27, f 28, f 29, f 30, f 31, f 32, f 33, f 34, f 35, f 36, f 37, f 38, f 39, f 40, f 41, f 42, f 43, f 44, f 45, f 46, f 47, f 48, f 49, f 50, f 51, f 52, f 53, f 54, f 55, f 56, f 57, f 58, f 59, f 60, f 61, f 62, f 63, f 64, f 65, f 66, .int .i64 kd, f 68, f 69, f 70, f 71, f 72, f 73, f 74, f 75, f 76, f 77, f 78, f 79, f 80, f 81, f 82, f 83, f 84, f 85, f 86, f 87, f 88, f 89, f 90, f 91, f 92, f 93, f 94, f 95, f 96, f 97, f 98, f 99, f 100, f 101, f 102, f 103, f 104, f 105, f 106, f 107, f 108, f 109, f 110, f 111, f 112, f 113, f 114, f 115, f 116, f 117, f 118, f 119, f 120, f 121, f 122, f 123, f 124, f 125, f 126, f 127, f 128, f 129, f 130, f 131, f 132, f 133, f 134, f 135, f 136, f 137, f 138, f 139, f 140, f 141, f 142, f 143, f 144, f 145, f 146, f 147, f 148, f 149, f 150, f 151, f 152, f 153, f 154, f 155, f 156, f 157, f 158, f 159, f 160, f 161, f 162, f 163, f 164, f 165, f 166, f 167, f 168, f 169, f 170, f 171, f 172, f 173, f 174, f 175, f 176, f 177, f 178, f 179, f 180, f 181, f 182, f 183, f 184, f 185, f 186, f 187, f 188, f 189, f 190, f 191, f 192, f 193, f 194, f 195, f 196, f 197, f 198, f 199, f 200, f 201, f 202, f 203, f 204, f 205, f 206, f 207, f 208, f 209, f 210, f 211, f 212, f 213, f 214, f 215, f 216, f 217, f 218], []⟩ := by
 obtain ⟨f, e, hf⟩ := Fr.lit h;obtain ⟨h2, h3, h4, h5, h8, h9, h10, h11, h12, h13, h67, -⟩ := h.has;refine ⟨f, e.trans ?_⟩;have k2 := Zf h2 (hf 2 (by omega));have k3 := Zf h3 (hf 3 (by omega));have k4 := Zf h4 (hf 4 (by omega));have k5 := Zf h5 (hf 5 (by omega));have k8 := Zf h8 (hf 8 (by omega));have k9 := Zf h9 (hf 9 (by omega));have k10 := Zf h10 (hf 10 (by omega));have k11 := Zf h11 (hf 11 (by omega));have k12 := Zf h12 (hf 12 (by omega));have k13 := Zf h13 (hf 13 (by omega));have k67 := Zf h67 (hf 67 (by omega));rw [← k2];rw [← k3];rw [← k4];rw [← k5];rw [← k8];rw [← k9];rw [← k10];rw [← k11];rw [← k12];rw [← k13];rw [← k67]
 rfl
theorem FrK.mk' {A : Array Value} (hs : A.size = 219) (h2 : A[2]? = some (.bool lp)) (h3 : A[3]? = some (.bool cr)) (h4 : A[4]? = some (.pointer (some ⟨WB, 0, none⟩))) (h5 : A[5]? = some (.pointer (some ⟨CB, 0, none⟩))) (h8 : A[8]? = some (.bool false)) (h9 : A[9]? = some (.int .i64 lo)) (h10 : A[10]? = some (.int .i64 hi)) (h11 : A[11]? = some (v11)) (h12 : A[12]? = some (v12)) (h13 : A[13]? = some (v13)) (h67 : A[67]? = some (.int .i64 kd)) : FrK WB CB lp cr lo hi v11 v12 v13 kd ⟨A, []⟩ := ⟨hs, rfl, h2, h3, h4, h5, h8, h9, h10, h11, h12, h13, h67, trivial⟩
end
def FrL (WB CB : Nat) (lp cr : Bool) (lo hi : Int) (v11 v12 v13 : Value) (AK : Option Addr) (len k j : Nat) (a : Act) : Prop := Fr 219 [(2, .bool lp), (3, .bool cr), (4, .pointer (some ⟨WB, 0, none⟩)), (5, .pointer (some ⟨CB, 0, none⟩)), (8, .bool false), (9, .int .i64 lo), (10, .int .i64 hi), (11, v11), (12, v12), (13, v13), (189, .slice AK len k), (190, .int .i64 (len : Nat)), (191, .int .i64 (j : Nat))] a
section
variable {WB CB : Nat} {lp cr : Bool} {lo hi : Int} {v11 v12 v13 : Value} {AK : Option Addr} {len k j : Nat} {a : Act}
theorem FrL.opn (h : FrL WB CB lp cr lo hi v11 v12 v13 AK len k j a) : ∃ f : Nat → Value, a = ⟨#[f 0, f 1, .bool lp, .bool cr, .pointer (some ⟨WB, 0, none⟩), .pointer (some ⟨CB, 0, none⟩), f 6, f 7, .bool false, .int .i64 lo, .int .i64 hi, v11, v12, v13, f 14, f 15, f 16, f 17, f 18, f 19, f 20, f 21, f 22, f 23, f 24, f 25, f 26, f 27, f 28, f 29, f 30, f 31, f 32, f 33, f 34, f 35, f 36, f 37, f 38, f 39, f 40, f 41, f 42, f 43, f 44, f 45, f 46, f 47, f 48, f 49, f 50, f 51, f 52, f 53, f 54, f 55, f 56, f 57, f 58, f 59, f 60, f 61, f 62, f 63, f 64, f 65, f 66, f 67, f 68, f 69, f 70, f 71, f 72, f 73, f 74, f 75, f 76, f 77, f 78, f 79, f 80, f 81, f 82, f 83, f 84, f 85, f 86, f 87, f 88, f 89, f 90, f 91, f 92, f 93, f 94, f 95, f 96, f 97, f 98, f 99, f 100, f 101, f 102, f 103, f 104, f 105, f 106, f 107, f 108, f 109, f 110, f 111, f 112, f 113, f 114, f 115, f 116, f 117, f 118, f 119, f 120, f 121, f 122, f 123, f 124, f 125, f 126, f 127, f 128, f 129, f 130, f 131, f 132, f 133, f 134, f 135, f 136, f 137, f 138, f 139, f 140, f 141, f 142, f 143, f 144, f 145, f 146, f 147, f 148, f 149, f 150, f 151, f 152, f 153, f 154, f 155, f 156, f 157, f 158, f 159, f 160, f 161, f 162, f 163, f 164, f 165, f 166, f 167, f 168, f 169, f 170, f 171, f 172, f 173, f 174, f 175, f 176, f 177, f 178, f 179, f 180, f 181, f 182, f 183, f 184, f 185, f 186, f 187, f 188, .slice AK len k, .int .i64 (len : Nat), .int .i64 (j : Nat), f 192, f 193, f 194, f 195, f 196, f 197, f 198, f 199, f 200, f 201, f 202, f 203, f 204, f 205, f 206, f 207, f 208, f 209, f 210, f 211, f 212, f 213, f 214, f 215, f 216, f 217, f 218], []⟩ := by
 obtain ⟨f, e, hf⟩ := Fr.lit h;obtain ⟨h2, h3, h4, h5, h8, h9, h10, h11, h12, h13, h189, h190, h191, -⟩ := h.has;refine ⟨f, e.trans ?_⟩;have k2 := Zf h2 (hf 2 (by omega));have k3 := Zf h3 (hf 3 (by omega));have k4 := Zf h4 (hf 4 (by omega));have k5 := Zf h5 (hf 5 (by omega));have k8 := Zf h8 (hf 8 (by omega));have k9 := Zf h9 (hf 9 (by omega));have k10 := Zf h10 (hf 10 (by omega));have k11 := Zf h11 (hf 11 (by omega));have k12 := Zf h12 (hf 12 (by omega));have k13 := Zf h13 (hf 13 (by omega));have k189 := Zf h189 (hf 189 (by omega));have k190 := Zf h190 (hf 190 (by omega));have k191 := Zf h191 (hf 191 (by omega));rw [← k2];rw [← k3];rw [← k4];rw [← k5];rw [← k8];rw [← k9];rw [← k10];rw [← k11];rw [← k12];rw [← k13];rw [← k189];rw [← k190];rw [← k191]
 rfl
theorem FrL.mk' {A : Array Value} (hs : A.size = 219) (h2 : A[2]? = some (.bool lp)) (h3 : A[3]? = some (.bool cr)) (h4 : A[4]? = some (.pointer (some ⟨WB, 0, none⟩))) (h5 : A[5]? = some (.pointer (some ⟨CB, 0, none⟩))) (h8 : A[8]? = some (.bool false)) (h9 : A[9]? = some (.int .i64 lo)) (h10 : A[10]? = some (.int .i64 hi)) (h11 : A[11]? = some (v11)) (h12 : A[12]? = some (v12)) (h13 : A[13]? = some (v13)) (h189 : A[189]? = some (.slice AK len k)) (h190 : A[190]? = some (.int .i64 (len : Nat))) (h191 : A[191]? = some (.int .i64 (j : Nat))) : FrL WB CB lp cr lo hi v11 v12 v13 AK len k j ⟨A, []⟩ := ⟨hs, rfl, h2, h3, h4, h5, h8, h9, h10, h11, h12, h13, h189, h190, h191, trivial⟩
end
def FrJ (WB CB : Nat) (lp cr : Bool) (lo hi : Int) (v11 v12 v13 : Value) (AK : Option Addr) (len k j : Nat) (KB : Nat) (v14 v16 v198 : Value) (a : Act) : Prop := Fr 219 [(2, .bool lp), (3, .bool cr), (4, .pointer (some ⟨WB, 0, none⟩)), (5, .pointer (some ⟨CB, 0, none⟩)), (8, .bool false), (9, .int .i64 lo), (10, .int .i64 hi), (11, v11), (12, v12), (13, v13), (14, v14), (15, .pointer (some ⟨KB, 0, none⟩)), (16, v16), (189, .slice AK len k), (190, .int .i64 (len : Nat)), (191, .int .i64 (j : Nat)), (198, v198)] a
section
variable {WB CB : Nat} {lp cr : Bool} {lo hi : Int} {v11 v12 v13 : Value} {AK : Option Addr} {len k j : Nat} {KB : Nat} {v14 v16 v198 : Value} {a : Act}
theorem FrJ.opn (h : FrJ WB CB lp cr lo hi v11 v12 v13 AK len k j KB v14 v16 v198 a) : ∃ f : Nat → Value, a = ⟨#[f 0, f 1, .bool lp, .bool cr, .pointer (some ⟨WB, 0, none⟩), .pointer (some ⟨CB, 0, none⟩), f 6, f 7, .bool false, .int .i64 lo, .int .i64 hi, v11, v12, v13, v14, .pointer (some ⟨KB, 0, none⟩), v16, f 17, f 18, f 19, f 20, f 21, f 22, f 23, f 24, f 25, f 26, f 27, f 28, f 29, f 30, f 31, f 32, f 33, f 34, f 35, f 36, f 37, f 38, f 39, f 40, f 41, f 42, f 43, f 44, f 45, f 46, f 47, f 48, f 49, f 50, f 51, f 52, f 53, f 54, f 55, f 56, f 57, f 58, f 59, f 60, f 61, f 62, f 63, f 64, f 65, f 66, f 67, f 68, f 69, f 70, f 71, f 72, f 73, f 74, f 75, f 76, f 77, f 78, f 79, f 80, f 81, f 82, f 83, f 84, f 85, f 86, f 87, f 88, f 89, f 90, f 91, f 92, f 93, f 94, f 95, f 96, f 97, f 98, f 99, f 100, f 101, f 102, f 103, f 104, f 105, f 106, f 107, f 108, f 109, f 110, f 111, f 112, f 113, f 114, f 115, f 116, f 117, f 118, f 119, f 120, f 121, f 122, f 123, f 124, f 125, f 126, f 127, f 128, f 129, f 130, f 131, f 132, f 133, f 134, f 135, f 136, f 137, f 138, f 139, f 140, f 141, f 142, f 143, f 144, f 145, f 146, f 147, f 148, f 149, f 150, f 151, f 152, f 153, f 154, f 155, f 156, f 157, f 158, f 159, f 160, f 161, f 162, f 163, f 164, f 165, f 166, f 167, f 168, f 169, f 170, f 171, f 172, f 173, f 174, f 175, f 176, f 177, f 178, f 179, f 180, f 181, f 182, f 183, f 184, f 185, f 186, f 187, f 188, .slice AK len k, .int .i64 (len : Nat), .int .i64 (j : Nat), f 192, f 193, f 194, f 195, f 196, f 197, v198, f 199, f 200, f 201, f 202, f 203, f 204, f 205, f 206, f 207, f 208, f 209, f 210, f 211, f 212, f 213, f 214, f 215, f 216, f 217, f 218], []⟩ := by
 obtain ⟨f, e, hf⟩ := Fr.lit h;obtain ⟨h2, h3, h4, h5, h8, h9, h10, h11, h12, h13, h14, h15, h16, h189, h190, h191, h198, -⟩ := h.has;refine ⟨f, e.trans ?_⟩;have k2 := Zf h2 (hf 2 (by omega));have k3 := Zf h3 (hf 3 (by omega));have k4 := Zf h4 (hf 4 (by omega));have k5 := Zf h5 (hf 5 (by omega));have k8 := Zf h8 (hf 8 (by omega));have k9 := Zf h9 (hf 9 (by omega));have k10 := Zf h10 (hf 10 (by omega));have k11 := Zf h11 (hf 11 (by omega));have k12 := Zf h12 (hf 12 (by omega));have k13 := Zf h13 (hf 13 (by omega));have k14 := Zf h14 (hf 14 (by omega));have k15 := Zf h15 (hf 15 (by omega));have k16 := Zf h16 (hf 16 (by omega));have k189 := Zf h189 (hf 189 (by omega));have k190 := Zf h190 (hf 190 (by omega));have k191 := Zf h191 (hf 191 (by omega));have k198 := Zf h198 (hf 198 (by omega));rw [← k2];rw [← k3];rw [← k4];rw [← k5];rw [← k8];rw [← k9];rw [← k10];rw [← k11];rw [← k12];rw [← k13];rw [← k14];rw [← k15];rw [← k16];rw [← k189];rw [← k190];rw [← k191];rw [← k198]
 rfl
theorem FrJ.mk' {A : Array Value} (hs : A.size = 219) (h2 : A[2]? = some (.bool lp)) (h3 : A[3]? = some (.bool cr)) (h4 : A[4]? = some (.pointer (some ⟨WB, 0, none⟩))) (h5 : A[5]? = some (.pointer (some ⟨CB, 0, none⟩))) (h8 : A[8]? = some (.bool false)) (h9 : A[9]? = some (.int .i64 lo)) (h10 : A[10]? = some (.int .i64 hi)) (h11 : A[11]? = some (v11)) (h12 : A[12]? = some (v12)) (h13 : A[13]? = some (v13)) (h14 : A[14]? = some (v14)) (h15 : A[15]? = some (.pointer (some ⟨KB, 0, none⟩))) (h16 : A[16]? = some (v16)) (h189 : A[189]? = some (.slice AK len k)) (h190 : A[190]? = some (.int .i64 (len : Nat))) (h191 : A[191]? = some (.int .i64 (j : Nat))) (h198 : A[198]? = some (v198)) : FrJ WB CB lp cr lo hi v11 v12 v13 AK len k j KB v14 v16 v198 ⟨A, []⟩ := ⟨hs, rfl, h2, h3, h4, h5, h8, h9, h10, h11, h12, h13, h14, h15, h16, h189, h190, h191, h198, trivial⟩
end
noncomputable def vcHd : Code := cL (cL (cR (cR (Zch Tryz.f81))))
noncomputable def vcSw : Code := cR (cL (cR (cR (cR (cR (cR (cR (Zch Tryz.f81))))))))
noncomputable def vcT2 : Code := cL (cL (cR (cR (cR (cR (cR (cR (cR (cR (Zch Tryz.f81))))))))))
noncomputable def vcT3 : Code := cL (cL (cR (cR (cR (cR (cR (cR (cR (cR (cR (Zch Tryz.f81)))))))))))
noncomputable def vcLp : Code := cR (cL (cR (cR (cR (cR (cR (cR (cR (cR (cR (cR (Zch Tryz.f81))))))))))))
noncomputable def vcIn : Code := cR (cL (cR (cR (cB (cL (cR (cR (cB (cB (cR (cL (cR (cR (cR (cR (cR (cR (cR (cR (cR (cR (Zch Tryz.f81))))))))))))))))))))))
structure VE (n : Nat) (F : Nat → Prop) (w : World) (W : Wd) (c : Zd) (A : Option Addr) (k WB CB : Nat) : Prop where
 cv : CV n F w c A k
 cb : w.heap[CB]? = some (.cells #[.int .i64 c.kind, .int .i64 c.op, .int .i64 c.aB, .int .i64 c.line, .string c.text, .slice A c.kids.length k] 68 (0, 0))
 wb : w.heap[WB]? = some (.cells #[.int .i64 (W.nS : Nat), .int .i64 (W.nG : Nat), .int .i64 (W.nR : Nat), .int .i64 (W.nC : Nat)] 141 (0, 0))
 sp : Spc w
theorem VE.later {n : Nat} {F : Nat → Prop} {w x : World} {W : Wd} {c : Zd} {A : Option Addr} {k WB CB : Nat} (h : VE n F w W c A k WB CB) (hl : Za w x) : VE n F x W c A k WB CB :=
 ⟨h.cv.keep (fun _ h => h) (Zb.later hl), (hl.block _ (Zc h.cb)).trans h.cb, (hl.block _ (Zc h.wb)).trans h.wb, h.sp.below hl⟩
def Tst (b : Bool) (w : World) (R : Act → Prop) : Exit → Act → World → Prop := Zjk (fun a x => b = true ∧ R a ∧ Za w x) (fun a x => b = false ∧ R a ∧ Za w x)
end
theorem Zsd {a : Act} (n : Nat) (F : Nat → Prop) (w : World) (W : Wd) (c : Zd) (A : Option Addr) (k WB CB : Nat) (lp cr : Bool) (lo hi : Int) (v11 v12 v13 : Value) (HE : Hd (VE n F w W c A k WB CB)) (HLO : Hd (lo = Zbw c.kind c.op)) (HHI : Hd (hi = Zcg c.kind c.op)) (HF : Hd (FrC WB CB lp cr lo hi (v11) (v12) v13 a)) :
  vcHd.wp Tryz.prog (Zhx fun a' x => FrA WB CB lp cr lo hi v11 v12 v13 (!(hd1 c)) a' ∧ x = w) a w := by
 obtain ⟨A', k', ek, hkc, hkm, _⟩ := HE.o.cv.kids;have hks1 : (c.kids.length : Int) ≤ 9223372036854775807 := by unfold maxLen at hkm; cases ek; omega
 clear ek hkc hkm;obtain ⟨b1, hb1⟩ : ∃ q : Bool, decide (c.kind < 1) = q := ⟨_, rfl⟩;obtain ⟨b2, hb2⟩ : ∃ q : Bool, decide (28 < c.kind) = q := ⟨_, rfl⟩;obtain ⟨b3, hb3⟩ : ∃ q : Bool, decide (c.line < 0) = q := ⟨_, rfl⟩;obtain ⟨b4, hb4⟩ : ∃ q : Bool, decide ((c.kids.length : Int) < lo) = q := ⟨_, rfl⟩;obtain ⟨b5, hb5⟩ : ∃ q : Bool, decide (hi < (c.kids.length : Int)) = q := ⟨_, rfl⟩;obtain ⟨b6, hb6⟩ : ∃ q : Bool, (c.kind != 11) = q := ⟨_, rfl⟩;obtain ⟨b7, hb7⟩ : ∃ q : Bool, (c.op != 0) = q := ⟨_, rfl⟩;have HD1 := zh (show hd1 c = (!b1 && (!b2 && (!b3 && (!b4 && (!b5 && (!b6 || !b7)))))) by
  unfold hd1;rw [← HLO.o, ← HHI.o, ← hb1, ← hb2, ← hb3, ← hb4, ← hb5, ← hb6, ← hb7];rw [Bool.eq_iff_iff];simp
  try omega)
 have c0 := cz6 HE.o.cb;have fc0 := fz HE.o.cb;have g0 := cz4 HE.o.wb;have fg0 := fz HE.o.wb;obtain ⟨fr, rfl⟩ := HF.o.opn;clear HF
 conv => arg 2; whnf
 cases b1 with
 | true => (go_wp2_with fail; rw [HD1.o]; exact ⟨FrA.mk' rfl rfl rfl rfl rfl rfl rfl rfl rfl rfl rfl rfl, rfl⟩)
 | false =>
 cases b2 with
 | true => (go_wp2_with fail; rw [HD1.o]; exact ⟨FrA.mk' rfl rfl rfl rfl rfl rfl rfl rfl rfl rfl rfl rfl, rfl⟩)
 | false =>
 cases b3 with
 | true => (go_wp2_with fail; rw [HD1.o]; exact ⟨FrA.mk' rfl rfl rfl rfl rfl rfl rfl rfl rfl rfl rfl rfl, rfl⟩)
 | false =>
 cases b4 with
 | true => (go_wp2_with fail; rw [HD1.o]; exact ⟨FrA.mk' rfl rfl rfl rfl rfl rfl rfl rfl rfl rfl rfl rfl, rfl⟩)
 | false =>
 cases b5 with
 | true => (go_wp2_with fail; rw [HD1.o]; exact ⟨FrA.mk' rfl rfl rfl rfl rfl rfl rfl rfl rfl rfl rfl rfl, rfl⟩)
 | false =>
 cases b6 <;> cases b7 <;> (go_wp2_with fail; rw [HD1.o]; exact ⟨FrA.mk' rfl rfl rfl rfl rfl rfl rfl rfl rfl rfl rfl rfl, rfl⟩)
theorem Zse {a : Act} (n : Nat) (F : Nat → Prop) (w : World) (W : Wd) (c : Zd) (A : Option Addr) (k WB CB : Nat) (lp cr : Bool) (lo hi : Int) (HE : Hd (VE n F w W c A k WB CB)) (zb : Bool) (hzb : (c.aB == 0) = zb) (HF : Hd (FrK WB CB lp cr lo hi (.bool c.text.toList.isEmpty) (.bool zb) (.func (Fn.func 137) #[] #[.pointer (some ⟨CB, 0, none⟩)]) c.kind a)) :
  vcSw.wp Tryz.prog (Zhx fun a' x => FrC WB CB lp cr lo hi (.bool (tOk c.kind c.text)) (.bool (nuB W c lp cr)) (.func (Fn.func 137) #[] #[.pointer (some ⟨CB, 0, none⟩)]) a' ∧ Za w x) a w := by
 have c0 := cz6 HE.o.cb;have fc0 := fz HE.o.cb;have g0 := cz4 HE.o.wb;have fg0 := fz HE.o.wb;obtain ⟨T, hT⟩ : ∃ z, z = tOk c.kind c.text := ⟨_, rfl⟩;obtain ⟨N, hN⟩ : ∃ z, z = nuB W c lp cr := ⟨_, rfl⟩;rw [← hT, ← hN];have HT := zh hT;have HN := zh hN;clear hT hN;obtain ⟨fr, rfl⟩ := HF.o.opn;clear HF
 conv => arg 2; whnf
 by_cases h1 : c.kind = 1
 ·have H1 := zh h1;have t1 : (c.kind == 1) = true := by rw [h1]; rfl
  clear h1;have HZB := zh hzb;obtain ⟨p, hp⟩ : ∃ q : Bool, decide (-999999999999 ≤ c.aB) = q := ⟨_, rfl⟩;obtain ⟨q, hq⟩ : ∃ q : Bool, decide (c.aB ≤ 999999999999) = q := ⟨_, rfl⟩;obtain rfl : T = c.text.toList.isEmpty := HT.o.trans (by simp [tOk, H1.o]);have HNN := zh (show N = (p && q) from HN.o.trans (by simp only [nuB, Ze6, H1.o, hp, hq]; simp))
  cases p <;> cases q <;> (go_wp2_with fail; obtain rfl := HNN.o; exact ⟨FrC.mk' rfl rfl rfl rfl rfl rfl rfl rfl rfl rfl rfl, Za.refl _⟩)
 by_cases h2 : c.kind = 2
 ·have H2 := zh h2;have t1 : (c.kind == 1) = false := by rw [h2]; rfl
  have t2 : (c.kind == 2) = true := by rw [h2]; rfl
  clear h2 h1;go_wp2_with fail;obtain rfl : T = decide ((c.text.size : Int) ≤ 120) := HT.o.trans (by simp [tOk, H2.o]);obtain rfl : N = (zb) := HN.o.trans (by simp [nuB, Ze6, H2.o, ← hzb]);exact ⟨FrC.mk' rfl rfl rfl rfl rfl rfl rfl rfl rfl rfl rfl, Za.refl _⟩
 by_cases h3 : c.kind = 3
 ·have H3 := zh h3;have t1 : (c.kind == 1) = false := by rw [h3]; rfl
  have t2 : (c.kind == 2) = false := by rw [h3]; rfl
  have t3 : (c.kind == 3) = true := by rw [h3]; rfl
  clear h3 h1 h2;go_wp2_with fail;refine (Zkm c.text _ HE.o.cv.tx).mono ?_;rintro e w2 ⟨rfl, hl2⟩;have HL2 := zh hl2;clear hl2;go_wp2_with fail;obtain rfl : T = Zfc (bl c.text) := HT.o.trans (by simp [tOk, H3.o]);obtain rfl : N = (zb) := HN.o.trans (by simp [nuB, Ze6, H3.o, ← hzb]);exact ⟨FrC.mk' rfl rfl rfl rfl rfl rfl rfl rfl rfl rfl rfl, HL2.o⟩
 by_cases h5 : c.kind = 5
 ·have H5 := zh h5;have t1 : (c.kind == 1) = false := by rw [h5]; rfl
  have t2 : (c.kind == 2) = false := by rw [h5]; rfl
  have t3 : (c.kind == 3) = false := by rw [h5]; rfl
  have t5 : (c.kind == 5) = true := by rw [h5]; rfl
  clear h5 h1 h2 h3;go_wp2_with fail;refine (Zey 0 c A k CB (W.nS : Nat) _ HE.o.cb).mono ?_;rintro e w2 ⟨rfl, rfl⟩;go_wp2_with fail;obtain rfl : T = c.text.toList.isEmpty := HT.o.trans (by simp [tOk, H5.o]);obtain rfl : N = (inB c.aB (W.nS : Nat)) := HN.o.trans (by simp [nuB, Ze6, H5.o, ← hzb]);exact ⟨FrC.mk' rfl rfl rfl rfl rfl rfl rfl rfl rfl rfl rfl, Za.refl _⟩
 by_cases h6 : c.kind = 6
 ·have H6 := zh h6;have t1 : (c.kind == 1) = false := by rw [h6]; rfl
  have t2 : (c.kind == 2) = false := by rw [h6]; rfl
  have t3 : (c.kind == 3) = false := by rw [h6]; rfl
  have t5 : (c.kind == 5) = false := by rw [h6]; rfl
  have t6 : (c.kind == 6) = true := by rw [h6]; rfl
  clear h6 h1 h2 h3 h5;go_wp2_with fail;refine (Zey 0 c A k CB (W.nG : Nat) _ HE.o.cb).mono ?_;rintro e w2 ⟨rfl, rfl⟩;go_wp2_with fail;obtain rfl : T = c.text.toList.isEmpty := HT.o.trans (by simp [tOk, H6.o]);obtain rfl : N = (inB c.aB (W.nG : Nat)) := HN.o.trans (by simp [nuB, Ze6, H6.o, ← hzb]);exact ⟨FrC.mk' rfl rfl rfl rfl rfl rfl rfl rfl rfl rfl rfl, Za.refl _⟩
 by_cases h7 : c.kind = 7
 ·have H7 := zh h7;have t1 : (c.kind == 1) = false := by rw [h7]; rfl
  have t2 : (c.kind == 2) = false := by rw [h7]; rfl
  have t3 : (c.kind == 3) = false := by rw [h7]; rfl
  have t5 : (c.kind == 5) = false := by rw [h7]; rfl
  have t6 : (c.kind == 6) = false := by rw [h7]; rfl
  have t7 : (c.kind == 7) = true := by rw [h7]; rfl
  clear h7 h1 h2 h3 h5 h6;go_wp2_with fail;refine (Zey 0 c A k CB (W.nR : Nat) _ HE.o.cb).mono ?_;rintro e w2 ⟨rfl, rfl⟩;go_wp2_with fail;obtain rfl : T = c.text.toList.isEmpty := HT.o.trans (by simp [tOk, H7.o]);obtain rfl : N = (inB c.aB (W.nR : Nat)) := HN.o.trans (by simp [nuB, Ze6, H7.o, ← hzb]);exact ⟨FrC.mk' rfl rfl rfl rfl rfl rfl rfl rfl rfl rfl rfl, Za.refl _⟩
 by_cases h8 : c.kind = 8
 ·have H8 := zh h8;have t1 : (c.kind == 1) = false := by rw [h8]; rfl
  have t2 : (c.kind == 2) = false := by rw [h8]; rfl
  have t3 : (c.kind == 3) = false := by rw [h8]; rfl
  have t5 : (c.kind == 5) = false := by rw [h8]; rfl
  have t6 : (c.kind == 6) = false := by rw [h8]; rfl
  have t7 : (c.kind == 7) = false := by rw [h8]; rfl
  have t8 : (c.kind == 8) = true := by rw [h8]; rfl
  clear h8 h1 h2 h3 h5 h6 h7;go_wp2_with fail;refine (Zey 0 c A k CB 55 _ HE.o.cb).mono ?_;rintro e w2 ⟨rfl, rfl⟩;go_wp2_with fail;obtain rfl : T = c.text.toList.isEmpty := HT.o.trans (by simp [tOk, H8.o]);obtain rfl : N = (inB c.aB 55) := HN.o.trans (by simp [nuB, Ze6, H8.o, ← hzb]);exact ⟨FrC.mk' rfl rfl rfl rfl rfl rfl rfl rfl rfl rfl rfl, Za.refl _⟩
 by_cases h9 : c.kind = 9
 ·have H9 := zh h9;have t1 : (c.kind == 1) = false := by rw [h9]; rfl
  have t2 : (c.kind == 2) = false := by rw [h9]; rfl
  have t3 : (c.kind == 3) = false := by rw [h9]; rfl
  have t5 : (c.kind == 5) = false := by rw [h9]; rfl
  have t6 : (c.kind == 6) = false := by rw [h9]; rfl
  have t7 : (c.kind == 7) = false := by rw [h9]; rfl
  have t8 : (c.kind == 8) = false := by rw [h9]; rfl
  have t9 : (c.kind == 9) = true := by rw [h9]; rfl
  clear h9 h1 h2 h3 h5 h6 h7 h8;go_wp2_with fail;refine (Zey 0 c A k CB (W.nC : Nat) _ HE.o.cb).mono ?_;rintro e w2 ⟨rfl, rfl⟩;go_wp2_with fail;obtain rfl : T = c.text.toList.isEmpty := HT.o.trans (by simp [tOk, H9.o]);obtain rfl : N = (inB c.aB (W.nC : Nat)) := HN.o.trans (by simp [nuB, Ze6, H9.o, ← hzb]);exact ⟨FrC.mk' rfl rfl rfl rfl rfl rfl rfl rfl rfl rfl rfl, Za.refl _⟩
 by_cases h10 : c.kind = 10
 ·have H10 := zh h10;have t1 : (c.kind == 1) = false := by rw [h10]; rfl
  have t2 : (c.kind == 2) = false := by rw [h10]; rfl
  have t3 : (c.kind == 3) = false := by rw [h10]; rfl
  have t5 : (c.kind == 5) = false := by rw [h10]; rfl
  have t6 : (c.kind == 6) = false := by rw [h10]; rfl
  have t7 : (c.kind == 7) = false := by rw [h10]; rfl
  have t8 : (c.kind == 8) = false := by rw [h10]; rfl
  have t9 : (c.kind == 9) = false := by rw [h10]; rfl
  have t10 : (c.kind == 10) = true := by rw [h10]; rfl
  clear h10 h1 h2 h3 h5 h6 h7 h8 h9;have HZB := zh hzb;obtain ⟨p, hp⟩ : ∃ q : Bool, (c.aB == 1) = q := ⟨_, rfl⟩;obtain ⟨q, hq⟩ : ∃ q : Bool, (c.aB == 2) = q := ⟨_, rfl⟩;obtain rfl : T = c.text.toList.isEmpty := HT.o.trans (by simp [tOk, H10.o]);have HNN := zh (show N = (p || q) from HN.o.trans (by simp only [nuB, Ze6, H10.o, hp, hq]; simp))
  cases p <;> cases q <;> (go_wp2_with fail; obtain rfl := HNN.o; exact ⟨FrC.mk' rfl rfl rfl rfl rfl rfl rfl rfl rfl rfl rfl, Za.refl _⟩)
 by_cases h20 : c.kind = 20
 ·have H20 := zh h20;have t1 : (c.kind == 1) = false := by rw [h20]; rfl
  have t2 : (c.kind == 2) = false := by rw [h20]; rfl
  have t3 : (c.kind == 3) = false := by rw [h20]; rfl
  have t5 : (c.kind == 5) = false := by rw [h20]; rfl
  have t6 : (c.kind == 6) = false := by rw [h20]; rfl
  have t7 : (c.kind == 7) = false := by rw [h20]; rfl
  have t8 : (c.kind == 8) = false := by rw [h20]; rfl
  have t9 : (c.kind == 9) = false := by rw [h20]; rfl
  have t10 : (c.kind == 10) = false := by rw [h20]; rfl
  have t20 : (c.kind == 20) = true := by rw [h20]; rfl
  clear h20 h1 h2 h3 h5 h6 h7 h8 h9 h10;have HZB := zh hzb;obtain rfl : T = c.text.toList.isEmpty := HT.o.trans (by simp [tOk, H20.o]);have HNN := zh (show N = (zb && lp) from HN.o.trans (by simp only [nuB, Ze6, H20.o]; simp [hzb]))
  cases zb <;> cases lp <;> (go_wp2_with fail; obtain rfl := HNN.o; exact ⟨FrC.mk' rfl rfl rfl rfl rfl rfl rfl rfl rfl rfl rfl, Za.refl _⟩)
 by_cases h21 : c.kind = 21
 ·have H21 := zh h21;have t1 : (c.kind == 1) = false := by rw [h21]; rfl
  have t2 : (c.kind == 2) = false := by rw [h21]; rfl
  have t3 : (c.kind == 3) = false := by rw [h21]; rfl
  have t5 : (c.kind == 5) = false := by rw [h21]; rfl
  have t6 : (c.kind == 6) = false := by rw [h21]; rfl
  have t7 : (c.kind == 7) = false := by rw [h21]; rfl
  have t8 : (c.kind == 8) = false := by rw [h21]; rfl
  have t9 : (c.kind == 9) = false := by rw [h21]; rfl
  have t10 : (c.kind == 10) = false := by rw [h21]; rfl
  have t20 : (c.kind == 20) = false := by rw [h21]; rfl
  have t21 : (c.kind == 21) = true := by rw [h21]; rfl
  clear h21 h1 h2 h3 h5 h6 h7 h8 h9 h10 h20;have HZB := zh hzb;obtain rfl : T = c.text.toList.isEmpty := HT.o.trans (by simp [tOk, H21.o]);have HNN := zh (show N = (zb && lp) from HN.o.trans (by simp only [nuB, Ze6, H21.o]; simp [hzb]))
  cases zb <;> cases lp <;> (go_wp2_with fail; obtain rfl := HNN.o; exact ⟨FrC.mk' rfl rfl rfl rfl rfl rfl rfl rfl rfl rfl rfl, Za.refl _⟩)
 by_cases h23 : c.kind = 23
 ·have H23 := zh h23;have t1 : (c.kind == 1) = false := by rw [h23]; rfl
  have t2 : (c.kind == 2) = false := by rw [h23]; rfl
  have t3 : (c.kind == 3) = false := by rw [h23]; rfl
  have t5 : (c.kind == 5) = false := by rw [h23]; rfl
  have t6 : (c.kind == 6) = false := by rw [h23]; rfl
  have t7 : (c.kind == 7) = false := by rw [h23]; rfl
  have t8 : (c.kind == 8) = false := by rw [h23]; rfl
  have t9 : (c.kind == 9) = false := by rw [h23]; rfl
  have t10 : (c.kind == 10) = false := by rw [h23]; rfl
  have t20 : (c.kind == 20) = false := by rw [h23]; rfl
  have t21 : (c.kind == 21) = false := by rw [h23]; rfl
  have t23 : (c.kind == 23) = true := by rw [h23]; rfl
  clear h23 h1 h2 h3 h5 h6 h7 h8 h9 h10 h20 h21;have HZB := zh hzb;obtain rfl : T = c.text.toList.isEmpty := HT.o.trans (by simp [tOk, H23.o]);have HNN := zh (show N = (zb && !cr) from HN.o.trans (by simp only [nuB, Ze6, H23.o]; simp [hzb]))
  cases zb <;> cases cr <;> (go_wp2_with fail; obtain rfl := HNN.o; exact ⟨FrC.mk' rfl rfl rfl rfl rfl rfl rfl rfl rfl rfl rfl, Za.refl _⟩)
 by_cases h24 : c.kind = 24
 ·have H24 := zh h24;have t1 : (c.kind == 1) = false := by rw [h24]; rfl
  have t2 : (c.kind == 2) = false := by rw [h24]; rfl
  have t3 : (c.kind == 3) = false := by rw [h24]; rfl
  have t5 : (c.kind == 5) = false := by rw [h24]; rfl
  have t6 : (c.kind == 6) = false := by rw [h24]; rfl
  have t7 : (c.kind == 7) = false := by rw [h24]; rfl
  have t8 : (c.kind == 8) = false := by rw [h24]; rfl
  have t9 : (c.kind == 9) = false := by rw [h24]; rfl
  have t10 : (c.kind == 10) = false := by rw [h24]; rfl
  have t20 : (c.kind == 20) = false := by rw [h24]; rfl
  have t21 : (c.kind == 21) = false := by rw [h24]; rfl
  have t23 : (c.kind == 23) = false := by rw [h24]; rfl
  have t24 : (c.kind == 24) = true := by rw [h24]; rfl
  clear h24 h1 h2 h3 h5 h6 h7 h8 h9 h10 h20 h21 h23;have HZB := zh hzb;obtain rfl : T = c.text.toList.isEmpty := HT.o.trans (by simp [tOk, H24.o]);have HNN := zh (show N = (zb && !cr) from HN.o.trans (by simp only [nuB, Ze6, H24.o]; simp [hzb]))
  cases zb <;> cases cr <;> (go_wp2_with fail; obtain rfl := HNN.o; exact ⟨FrC.mk' rfl rfl rfl rfl rfl rfl rfl rfl rfl rfl rfl, Za.refl _⟩)
 by_cases h25 : c.kind = 25
 ·have H25 := zh h25;have t1 : (c.kind == 1) = false := by rw [h25]; rfl
  have t2 : (c.kind == 2) = false := by rw [h25]; rfl
  have t3 : (c.kind == 3) = false := by rw [h25]; rfl
  have t5 : (c.kind == 5) = false := by rw [h25]; rfl
  have t6 : (c.kind == 6) = false := by rw [h25]; rfl
  have t7 : (c.kind == 7) = false := by rw [h25]; rfl
  have t8 : (c.kind == 8) = false := by rw [h25]; rfl
  have t9 : (c.kind == 9) = false := by rw [h25]; rfl
  have t10 : (c.kind == 10) = false := by rw [h25]; rfl
  have t20 : (c.kind == 20) = false := by rw [h25]; rfl
  have t21 : (c.kind == 21) = false := by rw [h25]; rfl
  have t23 : (c.kind == 23) = false := by rw [h25]; rfl
  have t24 : (c.kind == 24) = false := by rw [h25]; rfl
  have t25 : (c.kind == 25) = true := by rw [h25]; rfl
  clear h25 h1 h2 h3 h5 h6 h7 h8 h9 h10 h20 h21 h23 h24;have HZB := zh hzb;obtain rfl : T = c.text.toList.isEmpty := HT.o.trans (by simp [tOk, H25.o]);have HNN := zh (show N = (zb && !cr) from HN.o.trans (by simp only [nuB, Ze6, H25.o]; simp [hzb]))
  cases zb <;> cases cr <;> (go_wp2_with fail; obtain rfl := HNN.o; exact ⟨FrC.mk' rfl rfl rfl rfl rfl rfl rfl rfl rfl rfl rfl, Za.refl _⟩)
 have hnr : ¬ (23 ≤ c.kind ∧ c.kind ≤ 25) := by omega
 have t1 : (c.kind == 1) = false := nH.2 h1;have t2 : (c.kind == 2) = false := nH.2 h2;have t3 : (c.kind == 3) = false := nH.2 h3;have t5 : (c.kind == 5) = false := nH.2 h5;have t6 : (c.kind == 6) = false := nH.2 h6;have t7 : (c.kind == 7) = false := nH.2 h7;have t8 : (c.kind == 8) = false := nH.2 h8;have t9 : (c.kind == 9) = false := nH.2 h9;have t10 : (c.kind == 10) = false := nH.2 h10;have t20 : (c.kind == 20) = false := nH.2 h20;have t21 : (c.kind == 21) = false := nH.2 h21;have t23 : (c.kind == 23) = false := nH.2 h23;have t24 : (c.kind == 24) = false := nH.2 h24;have t25 : (c.kind == 25) = false := nH.2 h25;have HTT := zh (show T = c.text.toList.isEmpty from HT.o.trans (by simp [tOk, h1, h2, h3, h5, h6, h7, h8, h9, h10, h20, h21, h23, h24, h25]));have HNN := zh (show N = zb from HN.o.trans (by simp [nuB, Ze6, h1, h2, h3, h5, h6, h7, h8, h9, h10, h20, h21, h23, h24, h25, ← hzb]; try omega));clear h1 h2 h3 h5 h6 h7 h8 h9 h10 h20 h21 h23 h24 h25 hnr;go_wp2_with fail;obtain rfl := HTT.o;obtain rfl := HNN.o;exact ⟨FrC.mk' rfl rfl rfl rfl rfl rfl rfl rfl rfl rfl rfl, Za.refl _⟩
theorem Zsf {a : Act} (n : Nat) (F : Nat → Prop) (w : World) (W : Wd) (c : Zd) (A : Option Addr) (k WB CB : Nat) (lp cr : Bool) (lo hi : Int) (v11 v12 v13 : Value) (HE : Hd (VE n F w W c A k WB CB)) (HK : Hd (c.op = 79 → 2 ≤ c.kids.length)) (HF : Hd (FrC WB CB lp cr lo hi (v11) (v12) v13 a)) :
  vcT2.wp Tryz.prog (Zhx fun a' x => FrB WB CB lp cr lo hi v11 v12 v13 (!(Zjy c)) a' ∧ Za w x) a w := by
 obtain ⟨A', k', ek, hkc, hkm, _⟩ := HE.o.cv.kids;have hks1 : (c.kids.length : Int) ≤ 9223372036854775807 := by unfold maxLen at hkm; cases ek; omega
 clear ek hkc hkm
 by_cases ho : c.op = 79
 ·have hk2 : 2 ≤ c.kids.length := HK.o ho;have hk2' : (1 : Int) < (c.kids.length : Int) := by omega
  obtain ⟨n', rfl⟩ := HE.o.cv.lev (i := 1) (by omega);obtain ⟨kb, ko, Bk, q, eA, hca⟩ := CAt.kid HE.o.cv.kids (i := 1) (by omega);cases eA;rw [← Za4 (by omega)] at hca;obtain ⟨x, hx⟩ : ∃ z, z = c.kid 1 := ⟨_, rfl⟩;have hD := zh (show Zjy c = (x.kind == 2 && Zba x.text) by unfold Zjy; rw [ho, hx]; rfl);rw [← hx] at hca;obtain ⟨c0, c1, c2, c3, c4, c5⟩ := cz6 HE.o.cb;have fc0 := fz HE.o.cb;have g0 := cz4 HE.o.wb;have fg0 := fz HE.o.wb;rw [ho] at c1;have d0 := hca.c0;have d1 := hca.c1;have d2 := hca.c2;have d3 := hca.c3;have d4 := hca.c4;have d5 := hca.c5;simp only [Nat.zero_mul, Nat.add_zero, Nat.reduceMul, Nat.add_assoc, Nat.reduceAdd] at d0 d1 d2 d3 d4 d5;have HTX := zh hca.tx;clear hca hx ho;obtain ⟨p, hp⟩ : ∃ b : Bool, (x.kind != 2) = b := ⟨_, rfl⟩;have HP := zh (show (x.kind == 2) = !p by rw [← hp]; simp [bne]);obtain ⟨fr, rfl⟩ := HF.o.opn;clear HF
  conv => arg 2; whnf
  cases p with
  | true =>
   go_wp2_with fail;rw [hD.o, HP.o];exact ⟨FrB.mk' rfl rfl rfl rfl rfl rfl rfl rfl rfl rfl rfl rfl, Za.refl _⟩
  | false =>
   go_wp2_with fail;refine (Zc4 x.text _ HTX.o HE.o.sp).mono ?_;rintro e w3 ⟨rfl, hl3⟩;have HL3 := zh hl3;clear hl3;obtain ⟨p2, hp2⟩ : ∃ b : Bool, Zba x.text = b := ⟨_, rfl⟩;rw [hp2];have HP2 := zh hp2;clear hp2
   cases p2 <;> (go_wp2_with fail; rw [hD.o, HP.o, HP2.o]; exact ⟨FrB.mk' rfl rfl rfl rfl rfl rfl rfl rfl rfl rfl rfl rfl, HL3.o⟩)
 ·have t79 : (c.op == 79) = false := nH.2 ho;have hD := zh (show Zjy c = true by unfold Zjy; rw [t79]; rfl);obtain ⟨c0, c1, c2, c3, c4, c5⟩ := cz6 HE.o.cb;have fc0 := fz HE.o.cb;have g0 := cz4 HE.o.wb;have fg0 := fz HE.o.wb;obtain ⟨fr, rfl⟩ := HF.o.opn;clear HF
  conv => arg 2; whnf
  go_wp2_with fail;rw [hD.o];exact ⟨FrB.mk' rfl rfl rfl rfl rfl rfl rfl rfl rfl rfl rfl rfl, Za.refl _⟩
theorem Zsg {a : Act} (n : Nat) (F : Nat → Prop) (w : World) (W : Wd) (c : Zd) (A : Option Addr) (k WB CB : Nat) (lp cr : Bool) (lo hi : Int) (v11 v12 v13 : Value) (HE : Hd (VE n F w W c A k WB CB)) (HK : Hd (c.op = 81 → 1 ≤ c.kids.length)) (HF : Hd (FrC WB CB lp cr lo hi (v11) (v12) v13 a)) :
  vcT3.wp Tryz.prog (Zhx fun a' x => FrD WB CB lp cr lo hi v11 v12 v13 (!(Zi4 c)) a' ∧ x = w) a w := by
 obtain ⟨A', k', ek, hkc, hkm, _⟩ := HE.o.cv.kids;have hks1 : (c.kids.length : Int) ≤ 9223372036854775807 := by unfold maxLen at hkm; cases ek; omega
 clear ek hkc hkm
 by_cases ho : c.op = 81
 ·have hk2 : 1 ≤ c.kids.length := HK.o ho;have hk2' : (0 : Int) < (c.kids.length : Int) := by omega
  obtain ⟨n', rfl⟩ := HE.o.cv.lev (i := 0) (by omega);obtain ⟨kb, ko, Bk, q, eA, hca⟩ := CAt.kid HE.o.cv.kids (i := 0) (by omega);cases eA;rw [← Za4 (by omega)] at hca;obtain ⟨x, hx⟩ : ∃ z, z = c.kid 0 := ⟨_, rfl⟩;have hD := zh (show Zi4 c = (x.kind == 5 || x.kind == 6) by unfold Zi4; rw [ho, hx]; rfl);rw [← hx] at hca;obtain ⟨c0, c1, c2, c3, c4, c5⟩ := cz6 HE.o.cb;have fc0 := fz HE.o.cb;have g0 := cz4 HE.o.wb;have fg0 := fz HE.o.wb;rw [ho] at c1;have d0 := hca.c0;have d1 := hca.c1;have d2 := hca.c2;have d3 := hca.c3;have d4 := hca.c4;have d5 := hca.c5;simp only [Nat.zero_mul, Nat.add_zero, Nat.reduceMul, Nat.add_assoc, Nat.reduceAdd] at d0 d1 d2 d3 d4 d5;clear hca hx ho;obtain ⟨p, hp⟩ : ∃ b : Bool, (x.kind != 5) = b := ⟨_, rfl⟩;obtain ⟨p2, hp2⟩ : ∃ b : Bool, (x.kind != 6) = b := ⟨_, rfl⟩;have HP := zh (show Zi4 c = (!p || !p2) by rw [hD.o, ← hp, ← hp2]; simp [bne]);obtain ⟨fr, rfl⟩ := HF.o.opn;clear HF
  conv => arg 2; whnf
  cases p <;> cases p2 <;> (go_wp2_with fail; rw [HP.o]; exact ⟨FrD.mk' rfl rfl rfl rfl rfl rfl rfl rfl rfl rfl rfl rfl, rfl⟩)
 ·have t81 : (c.op == 81) = false := nH.2 ho;have hD := zh (show Zi4 c = true by unfold Zi4; rw [t81]; rfl);obtain ⟨c0, c1, c2, c3, c4, c5⟩ := cz6 HE.o.cb;have fc0 := fz HE.o.cb;have g0 := cz4 HE.o.wb;have fg0 := fz HE.o.wb;obtain ⟨fr, rfl⟩ := HF.o.opn;clear HF
  conv => arg 2; whnf
  go_wp2_with fail;rw [hD.o];exact ⟨FrD.mk' rfl rfl rfl rfl rfl rfl rfl rfl rfl rfl rfl rfl, rfl⟩
theorem Zsh {a : Act} (n : Nat) (F : Nat → Prop) (w : World) (W : Wd) (c : Zd) (A : Option Addr) (k WB CB : Nat) (lp cr : Bool) (lo hi : Int) (v11 v12 v13 : Value) (HE : Hd (VE n F w W c A k WB CB)) (j KB : Nat) (HF : Hd (FrJ WB CB lp cr lo hi v11 v12 v13 A c.kids.length k j KB (.int .i64 (j : Nat)) (.bool lp) (.int .i64 c.kind) a)) :
  vcIn.wp Tryz.prog (Zhx fun a' x => FrJ WB CB lp cr lo hi v11 v12 v13 A c.kids.length k j KB (.int .i64 (j : Nat)) (.bool (Zm c.kind j lp)) (.int .i64 c.kind) a' ∧ x = w) a w := by
 have c0 := cz6 HE.o.cb;have fc0 := fz HE.o.cb;have g0 := cz4 HE.o.wb;have fg0 := fz HE.o.wb;obtain ⟨ib, hib⟩ : ∃ z, z = Zm c.kind j lp := ⟨_, rfl⟩;rw [← hib];have HIB := zh hib;clear hib;obtain ⟨fr, rfl⟩ := HF.o.opn;clear HF
 conv => arg 2; whnf
 by_cases h18 : c.kind = 18
 ·have HK := zh h18;have t18 : (c.kind == 18) = true := by rw [h18]; rfl
  have t19 : (c.kind == 19) = false := by rw [h18]; rfl
  have t20 : (c.kind == 20) = false := by rw [h18]; rfl
  have t26 : (c.kind == 26) = false := by rw [h18]; rfl
  clear h18;obtain rfl : ib = ((j : Int) == 1) := HIB.o.trans (by rw [Bool.eq_iff_iff]; simp [Zm, HK.o]; try omega);go_wp2_with fail;exact ⟨FrJ.mk' rfl rfl rfl rfl rfl rfl rfl rfl rfl rfl rfl rfl rfl rfl rfl rfl rfl rfl, rfl⟩
 by_cases h19 : c.kind = 19
 ·have HK := zh h19;have t18 : (c.kind == 18) = false := by rw [h19]; rfl
  have t19 : (c.kind == 19) = true := by rw [h19]; rfl
  have t20 : (c.kind == 20) = false := by rw [h19]; rfl
  have t26 : (c.kind == 26) = false := by rw [h19]; rfl
  clear h19;obtain rfl : ib = ((j : Int) == 1) := HIB.o.trans (by rw [Bool.eq_iff_iff]; simp [Zm, HK.o]; try omega);go_wp2_with fail;exact ⟨FrJ.mk' rfl rfl rfl rfl rfl rfl rfl rfl rfl rfl rfl rfl rfl rfl rfl rfl rfl rfl, rfl⟩
 by_cases h20 : c.kind = 20
 ·have HK := zh h20;have t18 : (c.kind == 18) = false := by rw [h20]; rfl
  have t19 : (c.kind == 19) = false := by rw [h20]; rfl
  have t20 : (c.kind == 20) = true := by rw [h20]; rfl
  have t26 : (c.kind == 26) = false := by rw [h20]; rfl
  clear h20;obtain rfl : ib = false := HIB.o.trans (by simp [Zm, HK.o]);go_wp2_with fail;exact ⟨FrJ.mk' rfl rfl rfl rfl rfl rfl rfl rfl rfl rfl rfl rfl rfl rfl rfl rfl rfl rfl, rfl⟩
 by_cases h26 : c.kind = 26
 ·have HK := zh h26;have t18 : (c.kind == 18) = false := by rw [h26]; rfl
  have t19 : (c.kind == 19) = false := by rw [h26]; rfl
  have t20 : (c.kind == 20) = false := by rw [h26]; rfl
  have t26 : (c.kind == 26) = true := by rw [h26]; rfl
  clear h26;obtain rfl : ib = false := HIB.o.trans (by simp [Zm, HK.o]);go_wp2_with fail;exact ⟨FrJ.mk' rfl rfl rfl rfl rfl rfl rfl rfl rfl rfl rfl rfl rfl rfl rfl rfl rfl rfl, rfl⟩
 have t18 : (c.kind == 18) = false := nH.2 h18;have t19 : (c.kind == 19) = false := nH.2 h19;have t20 : (c.kind == 20) = false := nH.2 h20;have t26 : (c.kind == 26) = false := nH.2 h26;obtain rfl : ib = lp := HIB.o.trans (by simp [Zm, h18, h19, h20, h26]);clear h18 h19 h20 h26;go_wp2_with fail;exact ⟨FrJ.mk' rfl rfl rfl rfl rfl rfl rfl rfl rfl rfl rfl rfl rfl rfl rfl rfl rfl rfl, rfl⟩
def VcP (n : Nat) : Prop := ∀ (w : World) (F : Nat → Prop) (c : Zd) (A : Option Addr) (k : Nat) (W : Wd) (lp cr : Bool), CV n F w c A k → Spc w → Calls Tryz.prog 81 #[.agg #[.int .i64 (W.nS : Nat), .int .i64 (W.nG : Nat), .int .i64 (W.nR : Nat), .int .i64 (W.nC : Nat)], c.val A k, .bool lp, .bool cr] w fun e w' => e = .returned (.bool (vC W (n + 1) c lp cr)) ∧ Below w.heap.size w w'
theorem Zsi {a : Act} (n : Nat) (F : Nat → Prop) (w : World) (W : Wd) (c : Zd) (A : Option Addr) (k WB CB : Nat) (lp cr : Bool) (lo hi : Int) (v11 v12 v13 : Value) (HE : Hd (VE n F w W c A k WB CB)) (IH : ∀ n', n = n' + 1 → VcP n') (HF : Hd (FrL WB CB lp cr lo hi v11 v12 v13 A c.kids.length k 0 a)) :
  vcLp.wp Tryz.prog (Tst (Zoa W n c lp cr) w (FrC WB CB lp cr lo hi (v11) (v12) v13)) a w := by
 obtain ⟨A', k', ek, hkc, hkm, _⟩ := HE.o.cv.kids;have hks1 : (c.kids.length : Int) ≤ 9223372036854775807 := by unfold maxLen at hkm; cases ek; omega
 clear ek hkc hkm;have HF0 := HF;obtain ⟨c0, c1, c2, c3, c4, c5⟩ := cz6 HE.o.cb;have fc0 := fz HE.o.cb;have g0 := cz4 HE.o.wb;have fg0 := fz HE.o.wb;obtain ⟨fr, rfl⟩ := HF.o.opn;clear HF
 conv => arg 2; whnf
 go_wp2_with fail;refine wp_loop_ghost_k (fun g a u => ∃ j : Nat, g + j = c.kids.length ∧ FrL WB CB lp cr lo hi v11 v12 v13 A c.kids.length k j a ∧ Hd (∀ i, i < j → vC W n (c.kid i) (Zm c.kind i lp) (cr || decide (c.kind = 26)) = true) ∧ Za w u) c.kids.length ⟨0, by omega, HF0.o, zh (fun i h => by omega), Za.refl _⟩ ?_;clear c0 c1 c2 c3 c4 c5 fc0 g0 fg0 HF0 fr;rintro gk a u ⟨j, hg, hf, HJ, hl⟩ J K hJ hK;obtain ⟨fr, rfl⟩ := hf.opn;have HLL := zh hl;have HE2 := zh (HE.o.later hl);clear hl hf;obtain ⟨c0, c1, c2, c3, c4, c5⟩ := cz6 HE2.o.cb;have fc0 := fz HE2.o.cb;have g0 := cz4 HE2.o.wb;have fg0 := fz HE2.o.wb
 by_cases hlt : j < c.kids.length
 ·obtain ⟨n', rfl⟩ := HE.o.cv.lev hlt;have hlt' : (j : Int) < (c.kids.length : Int) := by omega
  obtain ⟨kb, ko, Bk, q, eA, hca⟩ := CAt.kid HE2.o.cv.kids hlt;cases eA;rw [← Za4 hlt] at hca;obtain ⟨x, hx⟩ : ∃ z, z = c.kid j := ⟨_, rfl⟩;rw [← hx] at hca;have d0 := hca.c0;have d1 := hca.c1;have d2 := hca.c2;have d3 := hca.c3;have d4 := hca.c4;have d5 := hca.c5;have HCA := zh hca;have HX := zh hx;clear hca hx;go_upto_region 43 with (fail);have hla : Za u (u.alloc (.cells #[.int .i64 x.kind, .int .i64 x.op, .int .i64 x.aB, .int .i64 x.line, .string x.text, .slice Bk x.kids.length q] 68)) := (Za.refl _).alloc _;have hkb := heap_alloc_new u (.cells #[.int .i64 x.kind, .int .i64 x.op, .int .i64 x.aB, .int .i64 x.line, .string x.text, .slice Bk x.kids.length q] 68);obtain ⟨w3, hw3⟩ : ∃ z, u.alloc (.cells #[.int .i64 x.kind, .int .i64 x.op, .int .i64 x.aB, .int .i64 x.line, .string x.text, .slice Bk x.kids.length q] 68) = z := ⟨_, rfl⟩;rw [hw3] at hla hkb ⊢;have HE3 := zh (HE2.o.later hla);have HLA := zh hla;have HKB := zh hkb;clear hla hkb hw3 c0 c1 c2 c3 c4 c5 fc0 g0 fg0 d0 d1 d2 d3 d4 d5;obtain ⟨c0, c1, c2, c3, c4, c5⟩ := cz6 HE3.o.cb;have fc0 := fz HE3.o.cb;have g0 := cz4 HE3.o.wb;have fg0 := fz HE3.o.wb;have z0 := cz6 HKB.o;have fz0 := fz HKB.o
  go_upto_block 3 with (fail)
  refine Zc0 (Zsh (n' + 1) F w3 W c _ k WB CB lp cr lo hi v11 v12 v13 HE3 j u.heap.size (zh (FrJ.mk' rfl rfl rfl rfl rfl rfl rfl rfl rfl rfl rfl rfl rfl rfl rfl rfl rfl rfl))) ?_;rintro a' w' ⟨hf, rfl⟩;obtain ⟨fr2, rfl⟩ := hf.opn;clear hf;obtain ⟨ib, hib⟩ : ∃ z, z = Zm c.kind j lp := ⟨_, rfl⟩;rw [← hib];have HIB := zh hib;clear hib;obtain ⟨p, hp⟩ : ∃ b : Bool, (c.kind == 26) = b := ⟨_, rfl⟩;have HP := zh (show (decide (c.kind = 26)) = p by rw [← hp]; rfl);have HC3 := zh (HCA.o.cv.keep (fun _ h => h) (Zb.later HLA.o))
  cases cr
  all_goals
   go_wp2_with fail;refine (IH n' rfl _ F x Bk q W ib _ HC3.o HE3.o.sp).mono ?_;rintro e w5 ⟨rfl, hl5⟩;have HL5 := zh (HLL.o.trans (Za.trans HLA.o hl5));clear hl5
   generalize hb : vC W (n' + 1) x ib _ = b
   have HBB := zh hb;clear hb
   cases b with
   | false =>
    go_wp2_with fail;exact ⟨Zr9 hlt (by rw [HP.o, ← HX.o, ← HIB.o]; exact HBB.o), FrC.mk' rfl rfl rfl rfl rfl rfl rfl rfl rfl rfl rfl, HL5.o⟩
   | true =>
    go_wp2_with fail;refine Handed.intro (gk - 1) (by omega) (hJ _ _ _ ⟨j + 1, by omega, FrL.mk' rfl rfl rfl rfl rfl rfl rfl rfl rfl rfl rfl rfl rfl rfl, zh (fun i hi => by
     by_cases h : i < j
     ·exact HJ.o i h
     ·obtain rfl : i = j := by omega
      rw [HP.o, ← HX.o, ← HIB.o]; exact HBB.o), HL5.o⟩)
 ·obtain rfl : j = c.kids.length := by omega
  go_wp2_with fail;exact ⟨Zqk (fun i hi => HJ.o i hi), FrC.mk' rfl rfl rfl rfl rfl rfl rfl rfl rfl rfl rfl, HLL.o⟩
theorem Zla : ∀ n, VcP n
 | n => fun w F c A k W lp cr hv ht => by
  have IH : ∀ n', n = n' + 1 → VcP n' := fun n' h => by subst h; exact Zla n'
  unfold Zd.val;have hlwb : Za w ((w.alloc (.cells #[.int .i64 (W.nS : Nat), .int .i64 (W.nG : Nat), .int .i64 (W.nR : Nat), .int .i64 (W.nC : Nat)] 141)).alloc (.cells #[.int .i64 c.kind, .int .i64 c.op, .int .i64 c.aB, .int .i64 c.line, .string c.text, .slice A c.kids.length k] 68)) := Za.trans ((Za.refl _).alloc _) ((Za.refl _).alloc _);have hE : VE n F ((w.alloc (.cells #[.int .i64 (W.nS : Nat), .int .i64 (W.nG : Nat), .int .i64 (W.nR : Nat), .int .i64 (W.nC : Nat)] 141)).alloc (.cells #[.int .i64 c.kind, .int .i64 c.op, .int .i64 c.aB, .int .i64 c.line, .string c.text, .slice A c.kids.length k] 68)) W c A k w.heap.size (w.heap.size + 1) := ⟨hv.keep (fun _ h => h) (Zb.later hlwb), by have := heap_alloc_new (w.alloc (.cells #[.int .i64 (W.nS : Nat), .int .i64 (W.nG : Nat), .int .i64 (W.nR : Nat), .int .i64 (W.nC : Nat)] 141)) (.cells #[.int .i64 c.kind, .int .i64 c.op, .int .i64 c.aB, .int .i64 c.line, .string c.text, .slice A c.kids.length k] 68); simpa using this, (((Za.refl _).alloc _).block _ (Zc (heap_alloc_new _ _))).trans (heap_alloc_new _ _), ht.below hlwb⟩;obtain ⟨wb, hwb⟩ : ∃ z, ((w.alloc (.cells #[.int .i64 (W.nS : Nat), .int .i64 (W.nG : Nat), .int .i64 (W.nR : Nat), .int .i64 (W.nC : Nat)] 141)).alloc (.cells #[.int .i64 c.kind, .int .i64 c.op, .int .i64 c.aB, .int .i64 c.line, .string c.text, .slice A c.kids.length k] 68)) = z := ⟨_, rfl⟩;rw [hwb] at hlwb hE;have HLb := zh hlwb;have HE := zh hE;clear hlwb hE hv ht
  obtain ⟨R, hR⟩ : ∃ z, z = vC W (n + 1) c lp cr := ⟨_, rfl⟩;rw [← hR];rw [Zvh] at hR;have HR := zh hR;obtain ⟨lo, hlo⟩ : ∃ z, z = Zbw c.kind c.op := ⟨_, rfl⟩;obtain ⟨hi, hhi⟩ : ∃ z, z = Zcg c.kind c.op := ⟨_, rfl⟩;have HLO := zh hlo;have HHI := zh hhi;clear hR;obtain ⟨zb, hzb⟩ : ∃ q : Bool, (c.aB == 0) = q := ⟨_, rfl⟩;have c0 := cz6 HE.o.cb;have fc0 := fz HE.o.cb;have g0 := cz4 HE.o.wb;have fg0 := fz HE.o.wb;go_enter Tryz.func81, Tryz.ntmps81;go_wp2_with fail;refine (Zmz n _ F c A k HE.o.cv HE.o.sp).mono ?_;rintro e w1 ⟨rfl, hl1⟩;have HL1 := zh hl1;have HE1 := zh (HE.o.later hl1);rw [← hlo, ← hhi];clear hl1 hlo hhi hwb;clear c0 fc0 g0 fg0;have c0 := cz6 HE1.o.cb;have fc0 := fz HE1.o.cb;have g0 := cz4 HE1.o.wb;have fg0 := fz HE1.o.wb;go_upto_region 2 with (fail);refine @Zc0 _ vcHd ?R1 _ _ _ _ ?h ?k
  case h =>
   refine Zsd n F w1 W c A k w.heap.size (w.heap.size + 1) lp cr lo hi undef undef undef HE1 HLO HHI (zh ?hf)
   case hf => exact FrC.mk' rfl rfl rfl rfl rfl rfl rfl rfl rfl rfl rfl
  case k =>
  rintro a' xz ⟨hf, hz⟩;subst xz;obtain ⟨fr, rfl⟩ := hf.opn;obtain ⟨q1, hq1⟩ : ∃ z, z = hd1 c := ⟨_, rfl⟩;rw [← hq1];have HQ1 := zh hq1;clear hf hq1
  cases q1 with
  | false =>
   go_wp2_with fail;go_ret;exact ⟨by rw [HR.o, ← HQ1.o]; rfl, HLb.o.trans HL1.o⟩
  | true =>
  have hb1 : hd1 c = true := HQ1.o.symm;have HB1 := zh hb1;have HE2 := HE1;have HL2 := HL1;have hd1s := hb1;unfold hd1 at hd1s;simp only [Bool.and_eq_true, nJ, Bool.or_eq_true, beq_iff_eq] at hd1s;obtain ⟨-, -, -, hkl, -, hk11⟩ := hd1s;have HK79 := zh (show c.op = 79 → 2 ≤ c.kids.length from fun ho => by
   have h1 : c.kind = 11 := by rcases hk11 with h | h; exact h; omega
   have h3 : Zbw 11 79 = 2 := by unfold Zbw; rw [if_pos rfl]; exact Zsa
   rw [h1, ho] at hkl
   omega)
  have HK81 := zh (show c.op = 81 → 1 ≤ c.kids.length from fun ho => by
   have h1 : c.kind = 11 := by rcases hk11 with h | h; exact h; omega
   have h3 : Zbw 11 81 = 1 := by unfold Zbw; rw [if_pos rfl]; exact Zsb
   rw [h1, ho] at hkl
   omega)
  clear hb1 hkl hk11;clear c0 fc0 g0 fg0;have c0 := cz6 HE2.o.cb;have fc0 := fz HE2.o.cb;have g0 := cz4 HE2.o.wb;have fg0 := fz HE2.o.wb
  go_upto_block 0 with (fail)
  refine @Zc0 _ vcSw ?R2 _ _ _ _ ?h ?k
  case h =>
   refine Zse n F w1 W c A k w.heap.size (w.heap.size + 1) lp cr lo hi HE2 zb hzb (zh ?hf)
   case hf => exact FrK.mk' rfl rfl rfl rfl rfl rfl rfl rfl rfl rfl rfl rfl
  case k =>
  rintro a' x3 ⟨hf, hl⟩;obtain ⟨fr3, rfl⟩ := hf.opn;have HE3 := zh (HE2.o.later hl);have HL3 := zh (Za.trans HL2.o hl);clear hf hl;clear c0 fc0 g0 fg0;have c0 := cz6 HE3.o.cb;have fc0 := fz HE3.o.cb;have g0 := cz4 HE3.o.wb;have fg0 := fz HE3.o.wb;obtain ⟨T, hT⟩ : ∃ z, z = tOk c.kind c.text := ⟨_, rfl⟩;obtain ⟨N, hN⟩ : ∃ z, z = nuB W c lp cr := ⟨_, rfl⟩;rw [← hT, ← hN];have HT := zh hT;have HN := zh hN;clear hT hN
  cases T with
  | false =>
   go_wp2_with fail;go_ret;exact ⟨by rw [HR.o, HB1.o, ← HT.o]; rfl, HLb.o.trans HL3.o⟩
  | true =>
  cases N with
  | false =>
   go_wp2_with fail;go_ret;exact ⟨by rw [HR.o, HB1.o, ← HT.o, ← HN.o]; rfl, HLb.o.trans HL3.o⟩
  | true =>
  have HB2 := zh (show (tOk c.kind c.text && nuB W c lp cr) = true by rw [← HT.o, ← HN.o]; rfl);have HE4 := HE3;have HL4 := HL3;clear c0 fc0 g0 fg0;have c0 := cz6 HE4.o.cb;have fc0 := fz HE4.o.cb;have g0 := cz4 HE4.o.wb;have fg0 := fz HE4.o.wb;go_upto_region 35 with (fail);refine @Zc0 _ vcT2 ?R3 _ _ _ _ ?h ?k
  case h =>
   refine Zsf n F x3 W c A k w.heap.size (w.heap.size + 1) lp cr lo hi (.bool true) (.bool true) (.func (Fn.func 137) #[] #[.pointer (some ⟨w.heap.size + 1, 0, none⟩)]) HE4 HK79 (zh ?hf)
   case hf => exact FrC.mk' rfl rfl rfl rfl rfl rfl rfl rfl rfl rfl rfl
  case k =>
  rintro a' x5 ⟨hf, hl⟩;obtain ⟨fr5, rfl⟩ := hf.opn;have HE5 := zh (HE4.o.later hl);have HL5 := zh (Za.trans HL4.o hl);clear hl;obtain ⟨qq, hq⟩ : ∃ z, z = Zjy c := ⟨_, rfl⟩;rw [← hq];have HQ := zh hq;clear hq hf
  cases qq with
  | false =>
   go_wp2_with fail;go_ret;exact ⟨by rw [HR.o, HB1.o, HB2.o, hd3, ← HQ.o]; rfl, HLb.o.trans HL5.o⟩
  | true =>
  have HB3 := zh HQ.o.symm;clear c0 fc0 g0 fg0;have c0 := cz6 HE5.o.cb;have fc0 := fz HE5.o.cb;have g0 := cz4 HE5.o.wb;have fg0 := fz HE5.o.wb;go_upto_region 37 with (fail);refine @Zc0 _ vcT3 ?R4 _ _ _ _ ?h ?k
  case h =>
   refine Zsg n F x5 W c A k w.heap.size (w.heap.size + 1) lp cr lo hi (.bool true) (.bool true) (.func (Fn.func 137) #[] #[.pointer (some ⟨w.heap.size + 1, 0, none⟩)]) HE5 HK81 (zh ?hf)
   case hf => exact FrC.mk' rfl rfl rfl rfl rfl rfl rfl rfl rfl rfl rfl
  case k =>
  rintro a' x6z ⟨hf, hz⟩;subst x6z;obtain ⟨fr6, rfl⟩ := hf.opn;have HE6 := HE5;have HL6 := HL5;obtain ⟨qq, hq⟩ : ∃ z, z = Zi4 c := ⟨_, rfl⟩;rw [← hq];have HQ := zh hq;clear hq hf
  cases qq with
  | false =>
   go_wp2_with fail;go_ret;exact ⟨by rw [HR.o, HB1.o, HB2.o, hd3, HB3.o, ← HQ.o]; rfl, HLb.o.trans HL6.o⟩
  | true =>
  have HB4 := zh HQ.o.symm;clear c0 fc0 g0 fg0;have c0 := cz6 HE6.o.cb;have fc0 := fz HE6.o.cb;have g0 := cz4 HE6.o.wb;have fg0 := fz HE6.o.wb
  go_upto_block 1 with (fail)
  refine @Zew _ vcLp ?R5 ?Rr5 _ _ _ _ ?h ?k ?k2
  case h =>
   refine Zsi n F x5 W c A k w.heap.size (w.heap.size + 1) lp cr lo hi (.bool true) (.bool true) (.func (Fn.func 137) #[] #[.pointer (some ⟨w.heap.size + 1, 0, none⟩)]) HE6 IH (zh ?hf)
   case hf => exact FrL.mk' rfl rfl rfl rfl rfl rfl rfl rfl rfl rfl rfl rfl rfl rfl
  case k2 =>
   rintro a' x ⟨hb, hf, hl⟩;obtain ⟨fr, rfl⟩ := hf.opn;exact bodyPost_ret (v := .bool false) (by simp [results, Tryz.results81, go_sem]) rfl ⟨by rw [HR.o, HB1.o, HB2.o, hd3, HB3.o, HB4.o, hb]; rfl, HLb.o.trans (Za.trans HL6.o hl)⟩
  case k =>
  rintro a' x7 ⟨hb1, hf, hl⟩;obtain ⟨fr7, rfl⟩ := hf.opn;have HB5 := zh hb1;have HL7 := zh (Za.trans HL6.o hl);clear hb1 hf hl;clear c0 fc0 g0 fg0;go_wp2_with fail;go_ret;exact ⟨by rw [HR.o, HB1.o, HB2.o, hd3, HB3.o, HB4.o, HB5.o]; rfl, HLb.o.trans HL7.o⟩
theorem Zsj {a : Act} (N : Nat) (F : Nat → Prop) (w : World) (p : Zu) (A1 A2 A3 : Option Addr) (k1 k2 k3 : Nat) (PB : Nat) (HE : Hd (PgB N F w p A1 A2 A3 k1 k2 k3 PB)) (hcn : Zb4 p.routines ≤ 4194304) (HF : Hd (FpL PB 0 A1 p.routines.length k1 0 a)) :
  ipLp.wp Tryz.prog (Zjk (fun a' x => p.routines.all (Zid (N + 1) p.globals.length p.routines.length p.aA.length) = true ∧ FpN PB (Zb4 p.routines) a' ∧ Za w x) (fun a' x => p.routines.all (Zid (N + 1) p.globals.length p.routines.length p.aA.length) = false ∧ FpX PB a' ∧ Za w x)) a w := by
 have HF0 := HF;obtain ⟨_, _, e1, hkc1, hkm1, _⟩ := HE.o.pg.ro;have hr1 : (p.routines.length : Int) ≤ 9223372036854775807 := by unfold maxLen at hkm1; cases e1; omega
 clear e1 hkc1 hkm1;have g0 := cz4 HE.o.pb;have fg0 := fz HE.o.pb;obtain ⟨fr, rfl⟩ := HF.o.opn;clear HF
 conv => arg 2; whnf
 go_wp2_with fail;refine wp_loop_ghost_k (fun g a u => ∃ j : Nat, g + j = p.routines.length ∧ FpL PB (Zb4 (p.routines.take j)) A1 p.routines.length k1 j a ∧ Hd (∀ i (h : i < p.routines.length), i < j → Zid (N + 1) p.globals.length p.routines.length p.aA.length p.routines[i] = true) ∧ Za w u) p.routines.length ⟨0, by omega, HF0.o, zh (fun i _ h => by omega), Za.refl _⟩ ?_;clear g0 fg0 HF0 fr;rintro gk a u ⟨j, hg, hf, HJ, hl⟩ J K hJ hK;obtain ⟨fr, rfl⟩ := hf.opn;have HLL := zh hl;have HE2 := zh (HE.o.later hl);clear hl hf
 by_cases hlt : j < p.routines.length
 ·have hlt' : (j : Int) < (p.routines.length : Int) := by omega
  obtain ⟨_, _, eA, _, _, hel⟩ := HE2.o.pg.ro;cases eA;obtain ⟨rb, ro, cs, rfl, hF, hb, hE, hc⟩ := hel j hlt;obtain ⟨vs, vk, rfl, hn1, hn2, hn3, hn4, hn5, hn6, hn7, hn8, hn9⟩ := hE;obtain ⟨As, ks, rfl, hsc, hsm, -⟩ := id hn3;obtain ⟨Ab, kb, rfl, hbc, hbm, -⟩ := id hn9;have e0 := hc 0 _ rfl;have e1 := hc 1 _ rfl;have e2 := hc 2 _ rfl;have e3 := hc 3 _ rfl;have e4 := hc 4 _ rfl;have e5 := hc 5 _ rfl;have e6 := hc 6 _ rfl;have e7 := hc 7 _ rfl;have e8 := hc 8 _ rfl;simp only [Nat.add_zero] at e0;obtain ⟨r, hr⟩ : ∃ z, z = p.routines[j] := ⟨_, rfl⟩;rw [← hr] at e0 e1 e2 e3 e4 e5 e6 e7 e8 hn1 hn2 hn3 hn4 hn5 hn6 hn7 hn8 hn9 hsc hbc;have HR := zh hr;have HCV := zh (show CV N F u r.body Ab kb from ⟨hn4, hn5, hn6, hn7, hn8, hn9⟩);have HSL := zh hn3;have HNM := zh hn1;have hs1 : (r.slots.length : Int) ≤ 9223372036854775807 := by unfold maxLen at hsm; omega
  have HSN := zh (Zi1 p.routines j hlt);have HTK := zh (Zi2 p.routines (j + 1));have HRO := zh (show Zid (N + 1) p.globals.length p.routines.length p.aA.length r = (Zba r.name && (decide (r.slots.length ≤ 24) && (decide (0 ≤ r.params) && (decide (r.params ≤ (r.slots.length : Int)) && (r.slots.all (fun s => s.toList == [] || Zba s) && (decide (dpC r.body ≤ 400) && vC (⟨r.slots.length, p.globals.length, p.routines.length, p.aA.length⟩ : Wd) (N + 1) r.body false false)))))) from rfl);clear hr hn1 hn3 hn4 hn5 hn6 hn7 hn8 hn9 hsc hsm hbc hbm hc hel;have hla : Za u (u.alloc (.cells #[.string r.name, .int .i64 r.params, .slice As r.slots.length ks, .int .i64 r.body.kind, .int .i64 r.body.op, .int .i64 r.body.aB, .int .i64 r.body.line, .string r.body.text, .slice Ab r.body.kids.length kb] 70)) := (Za.refl _).alloc _;have hrb := heap_alloc_new u (.cells #[.string r.name, .int .i64 r.params, .slice As r.slots.length ks, .int .i64 r.body.kind, .int .i64 r.body.op, .int .i64 r.body.aB, .int .i64 r.body.line, .string r.body.text, .slice Ab r.body.kids.length kb] 70);obtain ⟨w3, hw3⟩ : ∃ z, u.alloc (.cells #[.string r.name, .int .i64 r.params, .slice As r.slots.length ks, .int .i64 r.body.kind, .int .i64 r.body.op, .int .i64 r.body.aB, .int .i64 r.body.line, .string r.body.text, .slice Ab r.body.kids.length kb] 70) = z := ⟨_, rfl⟩;rw [hw3] at hla hrb;have HE3 := zh (HE2.o.later hla);have HL3 := zh (Za.trans HLL.o hla);have HRB := zh hrb;have HSL3 := zh (HSL.o.keep Zt (fun _ h => h) (Zb.later hla))
  have HCV3 := zh (HCV.o.keep (fun _ h => h) (Zb.later hla));have HW3 := zh hw3;obtain ⟨RB, hRB⟩ : ∃ z, z = u.heap.size := ⟨_, rfl⟩;clear hla hrb hw3;go_upto_region 7 with (fail);rw [HW3.o];rw [← hRB] at HRB ⊢;have HRS := zh hRB;clear hRB e0 e1 e2 e3 e4 e5 e6 e7 e8;have g0 := cz4 HE3.o.pb;have fg0 := fz HE3.o.pb;have r0 := cz9 HRB.o;have fr0 := fz HRB.o;go_wp2_with fail;refine (Zc4 r.name _ HNM.o HE3.o.sp).mono ?_;rintro e w4 ⟨rfl, hl4⟩;have HE4 := zh (HE3.o.later hl4);have HL4 := zh (Za.trans HL3.o hl4);have HRB4 := zC hl4 HRB;have HSL4 := zh (HSL3.o.keep Zt (fun _ h => h) (Zb.later hl4));have HCV4 := zh (HCV3.o.keep (fun _ h => h) (Zb.later hl4));clear hl4;clear g0 fg0 r0 fr0;have g0 := cz4 HE4.o.pb;have fg0 := fz HE4.o.pb;have r0 := cz9 HRB4.o;have fr0 := fz HRB4.o;obtain ⟨n1, hn1⟩ : ∃ q : Bool, Zba r.name = q := ⟨_, rfl⟩;obtain ⟨b2, hb2⟩ : ∃ q : Bool, decide ((24 : Int) < (r.slots.length : Int)) = q := ⟨_, rfl⟩;obtain ⟨b3, hb3⟩ : ∃ q : Bool, decide (r.params < 0) = q := ⟨_, rfl⟩;obtain ⟨b4, hb4⟩ : ∃ q : Bool, decide ((r.slots.length : Int) < r.params) = q := ⟨_, rfl⟩;have HT7 := zh (show (Zba r.name && (decide (r.slots.length ≤ 24) && (decide (0 ≤ r.params) && decide (r.params ≤ (r.slots.length : Int))))) = (n1 && (!b2 && (!b3 && !b4))) by
   rw [hn1, ← hb2, ← hb3, ← hb4, Bool.eq_iff_iff];simp only [Bool.and_eq_true, nJ, Bool.not_eq_true', nI, Int.not_lt]
   constructor <;> (rintro ⟨a1, a2, a3, a4⟩; exact ⟨a1, by omega, by omega, by omega⟩))
  have HRO2 := zh (show Zid (N + 1) p.globals.length p.routines.length p.aA.length r = ((Zba r.name && (decide (r.slots.length ≤ 24) && (decide (0 ≤ r.params) && decide (r.params ≤ (r.slots.length : Int))))) && (r.slots.all (fun s => s.toList == [] || Zba s) && (decide (dpC r.body ≤ 400) && vC (⟨r.slots.length, p.globals.length, p.routines.length, p.aA.length⟩ : Wd) (N + 1) r.body false false))) by rw [HRO.o]; simp only [Bool.and_assoc]);rw [hn1]
  cases n1 with
  | false => (go_wp2_with fail; exact ⟨Zce hlt (by rw [← HR.o, HRO2.o, HT7.o]; rfl), FpX.mk' rfl rfl rfl, HL4.o⟩)
  | true =>
  cases b2 with
  | true => (go_wp2_with fail; exact ⟨Zce hlt (by rw [← HR.o, HRO2.o, HT7.o]; rfl), FpX.mk' rfl rfl rfl, HL4.o⟩)
  | false =>
  cases b3 with
  | true => (go_wp2_with fail; exact ⟨Zce hlt (by rw [← HR.o, HRO2.o, HT7.o]; rfl), FpX.mk' rfl rfl rfl, HL4.o⟩)
  | false =>
  cases b4 with
  | true => (go_wp2_with fail; exact ⟨Zce hlt (by rw [← HR.o, HRO2.o, HT7.o]; rfl), FpX.mk' rfl rfl rfl, HL4.o⟩)
  | false =>
  go_wp2_with fail;clear hn1 hb2 hb3 hb4;refine (Zmx r.slots _ F _ HSL4.o HE4.o.sp).mono ?_;rintro e w5 ⟨rfl, hl5⟩;have HE5 := zh (HE4.o.later hl5);have HL5 := zh (Za.trans HL4.o hl5);have HRB5 := zC hl5 HRB4;have HCV5 := zh (HCV4.o.keep (fun _ h => h) (Zb.later hl5));clear hl5;clear g0 fg0 r0 fr0;have g0 := cz4 HE5.o.pb;have fg0 := fz HE5.o.pb;have r0 := cz9 HRB5.o;have fr0 := fz HRB5.o;have HSA := zh (show r.slots.all (fun s => s.toList == [] || Zba s) = !(r.slots.any slB) from Zmy r.slots);obtain ⟨sb, hsb⟩ : ∃ q : Bool, r.slots.any slB = q := ⟨_, rfl⟩;rw [hsb];have HSB := zh hsb;clear hsb
  cases sb with
  | true => (go_wp2_with fail; exact ⟨Zce hlt (by rw [← HR.o, HRO2.o, HSA.o, HSB.o]; simp), FpX.mk' rfl rfl rfl, HL5.o⟩)
  | false =>
  go_wp2_with fail;refine (Zk4 N _ F r.body Ab kb HCV5.o (by have := HSN.o; have := HTK.o; rw [← HR.o] at *; omega)).mono ?_;rintro e w6 ⟨rfl, hl6⟩;have HE6 := zh (HE5.o.later hl6);have HL6 := zh (Za.trans HL5.o hl6);have HRB6 := zC hl6 HRB5;have HCV6 := zh (HCV5.o.keep (fun _ h => h) (Zb.later hl6));have hcnb : Zb4 (p.routines.take j) + Z0 r.body ≤ 4194304 := by
   have h1 := HSN.o;have h2 := HTK.o;rw [← HR.o] at h1
   omega
  have tcn : IntKind.i64.wrap ((Zb4 (p.routines.take j) : Int) + (Z0 r.body : Int)) = ((Zb4 (p.routines.take j) + Z0 r.body : Nat) : Int) := by rw [IntWalk.i64_in _ (by omega)]; rfl
  clear hl6;clear g0 fg0 r0 fr0;have g0 := cz4 HE6.o.pb;have fg0 := fz HE6.o.pb;have r0 := cz9 HRB6.o;have fr0 := fz HRB6.o;go_upto_region 13 with (fail);have hla7 : Za w6 (w6.alloc (.cells #[.int .i64 (r.slots.length : Nat), .int .i64 (p.globals.length : Nat), .int .i64 (p.routines.length : Nat), .int .i64 (p.aA.length : Nat)] 141)) := (Za.refl _).alloc _;have hwb7 := heap_alloc_new w6 (.cells #[.int .i64 (r.slots.length : Nat), .int .i64 (p.globals.length : Nat), .int .i64 (p.routines.length : Nat), .int .i64 (p.aA.length : Nat)] 141);obtain ⟨w7, hw7⟩ : ∃ z, w6.alloc (.cells #[.int .i64 (r.slots.length : Nat), .int .i64 (p.globals.length : Nat), .int .i64 (p.routines.length : Nat), .int .i64 (p.aA.length : Nat)] 141) = z := ⟨_, rfl⟩;rw [hw7] at hla7 hwb7 ⊢;have HE7 := zh (HE6.o.later hla7);have HL7 := zh (Za.trans HL6.o hla7);have HRB7 := zC hla7 HRB6;have HCV7 := zh (HCV6.o.keep (fun _ h => h) (Zb.later hla7));have HWB7 := zh hwb7;obtain ⟨WB, hWB⟩ : ∃ z, z = w6.heap.size := ⟨_, rfl⟩;rw [← hWB] at HWB7 ⊢;clear hla7 hwb7 hw7 hWB;clear g0 fg0 r0 fr0;have g0 := cz4 HE7.o.pb;have fg0 := fz HE7.o.pb;have r0 := cz9 HRB7.o;have fr0 := fz HRB7.o;have q0 := cz4 HWB7.o;have fq0 := fz HWB7.o;go_wp2_with fail;refine (Zk6 N _ F r.body Ab kb HCV7.o (by omega)).mono ?_;rintro e w8 ⟨rfl, hl8⟩
  have HE8 := zh (HE7.o.later hl8);have HL8 := zh (Za.trans HL7.o hl8);have HRB8 := zC hl8 HRB7;have HCV8 := zh (HCV7.o.keep (fun _ h => h) (Zb.later hl8));have HWB8 := zC hl8 HWB7;obtain ⟨db, hdb⟩ : ∃ q : Bool, decide ((400 : Int) < (dpC r.body : Int)) = q := ⟨_, rfl⟩;have HDB := zh (show decide (dpC r.body ≤ 400) = !db by rw [← hdb, Bool.eq_iff_iff]; simp only [nJ, Bool.not_eq_true', nI, Int.not_lt]; omega);clear hl8;clear g0 fg0 r0 fr0 q0 fq0;have g0 := cz4 HE8.o.pb;have fg0 := fz HE8.o.pb;have r0 := cz9 HRB8.o;have fr0 := fz HRB8.o;have q0 := cz4 HWB8.o;have fq0 := fz HWB8.o
  cases db with
  | true => (go_wp2_with fail; exact ⟨Zce hlt (by rw [← HR.o, HRO2.o, HDB.o]; simp), FpX.mk' rfl rfl rfl, HL8.o⟩)
  | false =>
  go_wp2_with fail;refine (Zla N _ F r.body Ab kb (⟨r.slots.length, p.globals.length, p.routines.length, p.aA.length⟩ : Wd) false false HCV8.o HE8.o.sp).mono ?_;rintro e w9 ⟨rfl, hl9⟩;have HL9 := zh (Za.trans HL8.o hl9);clear hl9;obtain ⟨vb, hvb⟩ : ∃ z, z = vC (⟨r.slots.length, p.globals.length, p.routines.length, p.aA.length⟩ : Wd) (N + 1) r.body false false := ⟨_, rfl⟩;rw [← hvb];have HVB := zh hvb;clear hvb
  cases vb with
  | false => (go_wp2_with fail; exact ⟨Zce hlt (by rw [← HR.o, HRO2.o, ← HVB.o]; simp), FpX.mk' rfl rfl rfl, HL9.o⟩)
  | true =>
  go_wp2_with fail;refine Handed.intro (gk - 1) (by omega) (hJ _ _ _ ⟨j + 1, by omega, ?_, zh (Zik HJ.o (fun h => by rw [← HR.o, HRO2.o, HT7.o, HSA.o, HSB.o, HDB.o, ← HVB.o]; rfl)), HL9.o⟩);rw [HSN.o, ← HR.o];exact FpL.mk' rfl rfl rfl (by show some _ = some _; exact congrArg some (by go_num)) rfl rfl (by show some _ = some _; exact congrArg some (by go_num))
 ·obtain rfl : j = p.routines.length := by omega
  go_wp2_with fail;refine ⟨Zmv (fun i hi => HJ.o i hi hi), ?_, HLL.o⟩;rw [← show Zb4 (p.routines.take p.routines.length) = Zb4 p.routines by rw [List.take_length]];exact FpN.mk' rfl rfl rfl rfl
theorem Zpr (N : Nat) (p : Zu) : Zhg N p = (ph p && (p.routines.all (Zid N p.globals.length p.routines.length p.aA.length) && decide (Zb4 p.routines ≤ 40000))) := by
 unfold Zhg ph Zpd;rw [Bool.eq_iff_iff];simp only [Bool.and_eq_true]
 constructor
 ·rintro ⟨a1, a2, a3, a4, a5, a6, ⟨a7, a8, a9⟩, a10, a11⟩; exact ⟨⟨a1, a2, a3, ⟨a5, a4⟩, a6, a7, a8, a9⟩, a10, a11⟩
 ·rintro ⟨⟨a1, a2, a3, ⟨a5, a4⟩, a6, a7, a8, a9⟩, a10, a11⟩; exact ⟨a1, a2, a3, a4, a5, a6, ⟨a7, a8, a9⟩, a10, a11⟩
theorem Zlb (N : Nat) (F : Nat → Prop) (w : World) (p : Zu) (A1 A2 A3 : Option Addr) (k1 k2 k3 : Nat) (hpg : PgV N F w p A1 A2 A3 k1 k2 k3) (ht : Spc w) (hcn : Zb4 p.routines ≤ 4194304) : Calls Tryz.prog 32 #[.agg #[.slice A1 p.routines.length k1, .slice A2 p.aA.length k2, .slice A3 p.globals.length k3, .int .i64 p.main]] w fun e w' => e = .returned (.bool (Zhg (N + 1) p)) ∧ Below w.heap.size w w' := by
 have hlwb : Za w (w.alloc (.cells #[.slice A1 p.routines.length k1, .slice A2 p.aA.length k2, .slice A3 p.globals.length k3, .int .i64 p.main] 37)) := (Za.refl _).alloc _;have hE : PgB N F (w.alloc (.cells #[.slice A1 p.routines.length k1, .slice A2 p.aA.length k2, .slice A3 p.globals.length k3, .int .i64 p.main] 37)) p A1 A2 A3 k1 k2 k3 w.heap.size := ⟨hpg.later hlwb, heap_alloc_new _ _, ht.below hlwb⟩;obtain ⟨wb, hwb⟩ : ∃ z, (w.alloc (.cells #[.slice A1 p.routines.length k1, .slice A2 p.aA.length k2, .slice A3 p.globals.length k3, .int .i64 p.main] 37)) = z := ⟨_, rfl⟩;rw [hwb] at hlwb hE;have HLb := zh hlwb;have HE := zh hE;clear hlwb hE hpg ht;obtain ⟨R, hR⟩ : ∃ z, z = Zhg (N + 1) p := ⟨_, rfl⟩;rw [← hR];rw [Zpr] at hR;have HR := zh hR;clear hR;have g0 := cz4 HE.o.pb;have fg0 := fz HE.o.pb;go_enter Tryz.func32, Tryz.ntmps32;go_upto_region 1 with (fail)
 try rw [hwb]
 clear hwb;refine @Zc0 _ ipHd ?R1 _ _ _ _ ?h ?k
 case h =>
  refine Zr6 N F wb p A1 A2 A3 k1 k2 k3 w.heap.size HE (zh ?hf)
  case hf => exact FpX.mk' rfl rfl rfl
 case k =>
 rintro a' w2 ⟨hf, hl⟩;obtain ⟨fr1, rfl⟩ := hf.opn;have HE2 := zh (HE.o.later hl);have HL2 := zh hl;clear hf hl g0 fg0;obtain ⟨q1, hq1⟩ : ∃ z, z = ph p := ⟨_, rfl⟩;rw [← hq1];have HQ1 := zh hq1;clear hq1;have g0 := cz4 HE2.o.pb;have fg0 := fz HE2.o.pb
 cases q1 with
 | false =>
  go_wp2_with fail;go_ret;exact ⟨by rw [HR.o, ← HQ1.o]; rfl, HLb.o.trans HL2.o⟩
 | true =>
 go_upto_block 0 with (fail)
 refine @Zew _ ipLp ?R2 ?Q2 _ _ _ _ ?h ?k ?k2
 case h =>
  refine Zsj N F w2 p A1 A2 A3 k1 k2 k3 w.heap.size HE2 hcn (zh ?hf)
  case hf => exact FpL.mk' rfl rfl rfl rfl rfl rfl rfl
 case k2 =>
  rintro a' x ⟨hb, hf, hl⟩;obtain ⟨fr, rfl⟩ := hf.opn;exact bodyPost_ret (v := .bool false) (by simp [results, Tryz.results32, go_sem]) rfl ⟨by rw [HR.o, ← HQ1.o, hb]; rfl, HLb.o.trans (Za.trans HL2.o hl)⟩
 case k =>
 rintro a' w3 ⟨hb, hf, hl⟩;obtain ⟨fr2, rfl⟩ := hf.opn;have HB := zh hb;have HL3 := zh (Za.trans HL2.o hl);clear hb hf hl g0 fg0;obtain ⟨nb, hnb⟩ : ∃ q : Bool, decide ((Zb4 p.routines : Int) ≤ 40000) = q := ⟨_, rfl⟩;have hnb2 : decide (Zb4 p.routines ≤ 40000) = nb := by rw [← hnb, Bool.eq_iff_iff]; simp only [nJ]; omega
 have HNB := zh hnb2;go_wp2_with fail;go_ret;exact ⟨by rw [HR.o, ← HQ1.o, HB.o, HNB.o]; rfl, HLb.o.trans HL3.o⟩
theorem Zgp (N : Nat) (F : Nat → Prop) (w : World) (p : Zu) (A1 A2 A3 : Option Addr) (k1 k2 k3 : Nat) (hpg : PgV N F w p A1 A2 A3 k1 k2 k3) (hflt : ∀ b, F b → b < w.heap.size) (ht : Spc w) (hsz : Zab (szN N) p ≤ 1048576) : Calls Tryz.prog 8 #[.agg #[.slice A1 p.routines.length k1, .slice A2 p.aA.length k2, .slice A3 p.globals.length k3, .int .i64 p.main]] w (Zgo w (Zfz (N + 1) p)) := by
 obtain ⟨iStringS, hiStringS, hzStringS0, hzStringS1, hzStringS2⟩ := info_parts Zd6;have hcn : Zb4 p.routines ≤ 1048576 := by have := Zpl hpg.ro; unfold Zab at hsz; omega
 have hgl : p.globals.length ≤ 1048576 := by unfold Zab Zv at hsz; omega
 have hrt : p.routines.length ≤ 1048576 := by unfold Zab Zv at hsz; omega
 have hrc : p.aA.length ≤ 1048576 := by unfold Zab Zv at hsz; omega
 have hglb : p.globals.length ≤ 2097152 := by omega
 have hszr : Zv Zo p.aA ≤ 2097152 := by unfold Zab at hsz; omega
 obtain ⟨w1, hw1⟩ : ∃ z, ((w.alloc (.cells #[.slice A1 p.routines.length k1, .slice A2 p.aA.length k2, .slice A3 p.globals.length k3, .int .i64 p.main] 37)).alloc (.cells #[.slice none 0 0, .slice none 0 0, .slice none 0 0, .int .i64 0, .slice none 0 0] Zdc)) = z := ⟨_, rfl⟩;have hl1 : Za w w1 := by rw [← hw1]; exact ((Za.refl _).alloc _).alloc _
 have hE : PgB N F w1 p A1 A2 A3 k1 k2 k3 w.heap.size := ⟨hpg.later hl1, by rw [← hw1]; exact ((Za.refl _).alloc _).block w.heap.size (by simp) |>.trans (heap_alloc_new w _), ht.below hl1⟩;have hz : w1.heap[w.heap.size + 1]? = some (.cells #[.slice none 0 0, .slice none 0 0, .slice none 0 0, .int .i64 0, .slice none 0 0] Zdc (0, 0)) := by rw [← hw1]; exact Zc6 (by simp)
 obtain ⟨PB, hPB⟩ : ∃ z, w.heap.size = z := ⟨_, rfl⟩;obtain ⟨ZB, hZB⟩ : ∃ z, w.heap.size + 1 = z := ⟨_, rfl⟩;have HZB := zh (show w.heap.size ≤ ZB ∧ ZB < w1.heap.size from ⟨by omega, by rw [← hZB]; exact Zc hz⟩);rw [hZB] at hz;rw [hPB] at hE;have HPB := zh hPB;have HZB2 := zh hZB;have HLb := zh hl1;have HE := zh hE;have HZ := zh hz;have HFL := zh (show ∀ b, F b → b < w1.heap.size from fun b hb => Nat.lt_of_lt_of_le (hflt b hb) hl1.size);have HM := zh hpg.m;clear hl1 hE hz hpg ht hsz hflt hPB hZB;obtain ⟨Rr, hR⟩ : ∃ z, z = Zfz (N + 1) p := ⟨_, rfl⟩;rw [← hR];have HR := zh hR;clear hR;have g0 := cz4 HE.o.pb;have fg0 := fz HE.o.pb;go_enter Tryz.func8, Tryz.ntmps8;go_upto_region 1 with (fail)
 try rw [hw1]
 rw [HZB2.o, HPB.o];clear hw1;go_wp2_with fail;refine (Zlb N F w1 p A1 A2 A3 k1 k2 k3 HE.o.pg HE.o.sp (by omega)).mono ?_;rintro e w2 ⟨rfl, hl2⟩;have HL2 := zh (show Za w1 w2 from hl2);have HZ2 := zC hl2 HZ;clear hl2 g0 fg0;obtain ⟨q, hq⟩ : ∃ z, z = Zhg (N + 1) p := ⟨_, rfl⟩;rw [← hq];have HQ := zh hq;clear hq
 cases q with
 | false =>
  have z0 := cz5 HZ2.o;have fz0 := fz HZ2.o;go_wp2_with fail;have hd := Zgo.zero (Zbg HZB.o.1 Zhn w2 0 (HLb.o.trans HL2.o));simp only [Zbh, Zhn, Nat.zero_add, Nat.reduceAdd] at hd;rw [show Rr = (cdZ, false) by rw [HR.o]; unfold Zfz; rw [← HQ.o]; rfl];exact bodyPost_ret (v := .tuple #[.agg #[.slice none 0 0, .slice none 0 0, .slice none 0 0, .int .i64 0, .slice none 0 0], .bool false]) (by simp [results, Tryz.results8, go_sem, z0, fz0]) rfl hd
 | true =>
 have HRT := zh (Zhg.rts HQ.o.symm);have hl3 : Za w2 (w2.alloc (.cells #[.slice none 0 0, .bool false] Zoi)) := (Za.refl _).alloc _;have hc3 := heap_alloc_new w2 (.cells #[.slice none 0 0, .bool false] Zoi);obtain ⟨w3, hw3⟩ : ∃ z, w2.alloc (.cells #[.slice none 0 0, .bool false] Zoi) = z := ⟨_, rfl⟩;rw [hw3] at hl3 hc3;obtain ⟨CB, hCB⟩ : ∃ z, w2.heap.size = z := ⟨_, rfl⟩;have HCB := zh (show w1.heap.size ≤ CB ∧ CB < w3.heap.size from ⟨by rw [← hCB]; exact HL2.o.size, by rw [← hCB]; exact Zc hc3⟩);rw [hCB] at hc3;have HCB2 := zh hCB;have HC3 := zh hc3;have HLY := zh (Za.trans HL2.o hl3);have HEY := zh (HE.o.later HLY.o);clear hl3 hc3 hCB;go_upto_region 4 with (fail)
 try rw [hw3]
 rw [HCB2.o];clear hw3;go_upto_region 4 with (fail);refine Zph (fun A hA => ?_);have HA := zh hA;clear hA;refine Zl4 (I := Zd0 A w3 p PB A2 A3 k2 k3) [11] [] [0, 1, 2, 3, 4, 5, 6, 7, 8, 9, 10] [_] (by kernel_rfl) (by kernel_rfl) (by kernel_rfl) rfl (fun _ _ _ _ _ h => h) ?_ ?_ ?_ ?_
 ·rintro _ rfl;unfold Zd0;refine ⟨undef, undef, undef, undef, undef, undef, undef, undef, undef, undef, undef, ?_, Below.drew (Za.refl _), zh fun h => (Zbs h).elim, zh fun h => (Zbs h).elim, zh fun h => (Zbs h).elim, zh fun h => (Zbs h).elim, zh fun h => (Zbs h).elim, zh fun h => (Zbs h).elim, zh fun h => (Zbs h).elim, zh fun h => (Zbs h).elim, zh fun h => (Zbs h).elim, zh fun h => (Zbs h).elim, zh fun h => (Zbs h).elim⟩;rw [HA.o];simp only [Act.put, nA, nB, nC]
 ·intro Q' i hi o' ho';simp only [List.mem_cons, List.not_mem_nil, or_false] at hi
  rcases hi with rfl | rfl | rfl | rfl | rfl | rfl | rfl | rfl | rfl | rfl | rfl
  ·refine Zc9 (n := 12) rfl rfl [] (by kernel_rfl) (fun l a u hI hs hun hD => ?_) ho';obtain ⟨x0, x1, x2, x3, x4, x5, x6, x7, x8, x9, x10, ha, hu, F0, F1, F2, F3, F4, F5, F6, F7, F8, F9, F10⟩ := hI;rw [HA.o] at ha;simp only [Act.put, nA, nB, nC] at ha;subst ha;go_wp2_with fail
   first | refine Zaf ?_ | skip
   unfold Zd0;refine ⟨.pointer (some ⟨PB, 1, none⟩), x1, x2, x3, x4, x5, x6, x7, x8, x9, x10, ?_, hu.trans (Za.refl _),
    zh fun _ => rfl, kc F1, kQ Zee.fam F2 (Za.refl _), Zf4 F3 (Za.refl _), kc F4, kc F5, kQ2 RGR.fam F6 (Za.refl _), kc F7, kc F8, kM2 F9, kA F10 (Za.refl _)⟩
   rw [HA.o];simp only [Act.put, nA, nB, nC]
  ·refine Zc9 (n := 12) rfl rfl [0] (by kernel_rfl) (fun l a u hI hs hun hD => ?_) ho';obtain ⟨x0, x1, x2, x3, x4, x5, x6, x7, x8, x9, x10, ha, hu, F0, F1, F2, F3, F4, F5, F6, F7, F8, F9, F10⟩ := hI;rw [HA.o] at ha;simp only [Act.put, nA, nB, nC] at ha;subst ha;have e0 := F0.o (hD 0 (by simp));have HPU := zh (HEY.o.later hu);have g0 := cz4 HPU.o.pb;have fg0 := fz HPU.o.pb;go_wp2_with fail
   first | refine Zaf ?_ | skip
   unfold Zd0;refine ⟨x0, .slice A2 p.aA.length k2, x2, x3, x4, x5, x6, x7, x8, x9, x10, ?_, hu.trans (Za.refl _),
    kc F0, zh fun _ => rfl, kQ Zee.fam F2 (Za.refl _), Zf4 F3 (Za.refl _), kc F4, kc F5, kQ2 RGR.fam F6 (Za.refl _), kc F7, kc F8, kM2 F9, kA F10 (Za.refl _)⟩
   rw [HA.o];simp only [Act.put, List.setIfInBounds_toArray, List.set_cons_zero, List.set_cons_succ, e0]
  ·refine Zc9 (n := 12) rfl rfl [1] (by kernel_rfl) (fun l a u hI hs hun hD => ?_) ho';obtain ⟨x0, x1, x2, x3, x4, x5, x6, x7, x8, x9, x10, ha, hu, F0, F1, F2, F3, F4, F5, F6, F7, F8, F9, F10⟩ := hI;rw [HA.o] at ha;simp only [Act.put, nA, nB, nC] at ha;subst ha;have e1 := F1.o (hD 1 (by simp));have HPU := zh (HEY.o.later hu);go_wp2_with fail;refine (Zjw p.aA _ F u hszr HPU.o.pg.re).mono ?_;rintro e v ⟨v2, rfl, hrow, hb⟩;go_wp2_with fail
   first | refine Zaf ?_ | skip
   unfold Zd0;refine ⟨x0, x1, v2, x3, x4, x5, x6, x7, x8, x9, x10, ?_, hu.trans hb,
    kc F0, kc F1, zh fun _ => ⟨_, hrow.trim Zj, fun b hb => ⟨Nat.le_trans hu.size hb.1, hb.2⟩, fun b hN hb => by have h1 := (F10.o (Zcc (by decide) hN.1)).lt; rw [← hN.2] at h1; have := hb.1; omega⟩, Zf4 F3 hb, kc F4, kc F5, kX F6 hun, kc F7, kc F8, kX1 F9 hun, kA F10 hb⟩
   rw [HA.o];simp only [Act.put, List.setIfInBounds_toArray, List.set_cons_zero, List.set_cons_succ, e1]
  ·refine Zc9 (n := 12) rfl rfl [] (by kernel_rfl) (fun l a u hI hs hun hD => ?_) ho';obtain ⟨x0, x1, x2, x3, x4, x5, x6, x7, x8, x9, x10, ha, hu, F0, F1, F2, F3, F4, F5, F6, F7, F8, F9, F10⟩ := hI;rw [HA.o] at ha;simp only [Act.put, nA, nB, nC] at ha;subst ha;go_wp2_with fail
   first | refine Zaf ?_ | skip
   unfold Zd0;refine ⟨x0, x1, x2, .slice (some ⟨u.heap.size, 0, none⟩) 0 0, x4, x5, x6, x7, x8, x9, x10, ?_, hu.trans ((Za.refl _).alloc _),
    kc F0, kc F1, kQ Zee.fam F2 ((Za.refl _).alloc _), zh fun _ => ⟨_, rfl, heap_alloc_new u _⟩, kc F4, kc F5, kQ2 RGR.fam F6 ((Za.refl _).alloc _), kc F7, kc F8, kM2 F9, kA F10 ((Za.refl _).alloc _)⟩
   rw [HA.o];simp only [Act.put, nA, nB, nC]
  ·refine Zc9 (n := 12) rfl rfl [] (by kernel_rfl) (fun l a u hI hs hun hD => ?_) ho';obtain ⟨x0, x1, x2, x3, x4, x5, x6, x7, x8, x9, x10, ha, hu, F0, F1, F2, F3, F4, F5, F6, F7, F8, F9, F10⟩ := hI;rw [HA.o] at ha;simp only [Act.put, nA, nB, nC] at ha;subst ha;go_wp2_with fail
   first | refine Zaf ?_ | skip
   unfold Zd0;refine ⟨x0, x1, x2, x3, .pointer (some ⟨PB, 2, none⟩), x5, x6, x7, x8, x9, x10, ?_, hu.trans (Za.refl _),
    kc F0, kc F1, kQ Zee.fam F2 (Za.refl _), Zf4 F3 (Za.refl _), zh fun _ => rfl, kc F5, kQ2 RGR.fam F6 (Za.refl _), kc F7, kc F8, kM2 F9, kA F10 (Za.refl _)⟩
   rw [HA.o];simp only [Act.put, nA, nB, nC]
  ·refine Zc9 (n := 12) rfl rfl [4] (by kernel_rfl) (fun l a u hI hs hun hD => ?_) ho';obtain ⟨x0, x1, x2, x3, x4, x5, x6, x7, x8, x9, x10, ha, hu, F0, F1, F2, F3, F4, F5, F6, F7, F8, F9, F10⟩ := hI;rw [HA.o] at ha;simp only [Act.put, nA, nB, nC] at ha;subst ha;have e4 := F4.o (hD 4 (by simp));have HPU := zh (HEY.o.later hu);have g0 := cz4 HPU.o.pb;have fg0 := fz HPU.o.pb;go_wp2_with fail
   first | refine Zaf ?_ | skip
   unfold Zd0;refine ⟨x0, x1, x2, x3, x4, .slice A3 p.globals.length k3, x6, x7, x8, x9, x10, ?_, hu.trans (Za.refl _),
    kc F0, kc F1, kQ Zee.fam F2 (Za.refl _), Zf4 F3 (Za.refl _), kc F4, zh fun _ => rfl, kQ2 RGR.fam F6 (Za.refl _), kc F7, kc F8, kM2 F9, kA F10 (Za.refl _)⟩
   rw [HA.o];simp only [Act.put, List.setIfInBounds_toArray, List.set_cons_zero, List.set_cons_succ, e4]
  ·refine Zc9 (n := 12) rfl rfl [3, 5, 2] (by kernel_rfl) (fun l a u hI hs hun hD => ?_) ho';obtain ⟨x0, x1, x2, x3, x4, x5, x6, x7, x8, x9, x10, ha, hu, F0, F1, F2, F3, F4, F5, F6, F7, F8, F9, F10⟩ := hI;rw [HA.o] at ha;simp only [Act.put, nA, nB, nC] at ha;subst ha;have e3 := F3.o (hD 3 (by simp));have e5 := F5.o (hD 5 (by simp));have e2 := F2.o (hD 2 (by simp));have HPU := zh (HEY.o.later hu);obtain ⟨B3, hx3, hB3⟩ := e3;obtain ⟨R, h1, h2, h3⟩ := e2;refine Zdb Zgm (by decide) rfl _ _ 24 rfl 9 iStringS (.string ⟨#[]⟩) 16 Tryz.underlying24 hiStringS hzStringS0 hzStringS1 hzStringS2 rfl hx3 hB3 e5 HPU.o.pg.gl hglb (by decide) ?_;intro v6 w6 hr6 hl6;go_wp2_with fail
   first | refine Zaf ?_ | skip
   unfold Zd0;refine ⟨x0, x1, x2, x3, x4, x5, v6, x7, x8, x9, x10, ?_, hu.trans hl6,
    kc F0, kc F1, kQ Zee.fam F2 hl6, Zf4 F3 hl6, kc F4, kc F5, zh fun _ => ⟨⟨R, _, h1.keep Zj.is (fun _ h => h) (Zb.later hl6), hr6.trim Zw, fun b hb => by
      have hs := hu.size;have hs6 := hl6.size
      rcases hb with hb | hb
      ·exact ⟨(h2 b hb).1, Nat.lt_of_lt_of_le (h2 b hb).2 hs6⟩
      ·exact ⟨Nat.le_trans hs hb.1, hb.2⟩, fun b hb hc => by have := (h2 b hb).2; have := hc.1; omega, fun b hN hb => by
      rcases hb with hb | hb
      ·exact h3 b ⟨Zcc (by decide) hN.1, hN.2⟩ hb
      ·have h4 := (F10.o (Zcc (by decide) hN.1)).lt;rw [← hN.2] at h4;have := hb.1
       omega⟩, Zfe (hD 2 (by simp))⟩, kc F7, kc F8, kX2 F9 hun, kA F10 hl6⟩
   rw [HA.o];simp only [Act.put, List.setIfInBounds_toArray, List.set_cons_zero, List.set_cons_succ, hx3, e5]
  ·refine Zc9 (n := 12) rfl rfl [] (by kernel_rfl) (fun l a u hI hs hun hD => ?_) ho';obtain ⟨x0, x1, x2, x3, x4, x5, x6, x7, x8, x9, x10, ha, hu, F0, F1, F2, F3, F4, F5, F6, F7, F8, F9, F10⟩ := hI;rw [HA.o] at ha;simp only [Act.put, nA, nB, nC] at ha;subst ha;go_wp2_with fail
   first | refine Zaf ?_ | skip
   unfold Zd0;refine ⟨x0, x1, x2, x3, x4, x5, x6, .pointer (some ⟨PB, 3, none⟩), x8, x9, x10, ?_, hu.trans (Za.refl _),
    kc F0, kc F1, kQ Zee.fam F2 (Za.refl _), Zf4 F3 (Za.refl _), kc F4, kc F5, kQ2 RGR.fam F6 (Za.refl _), zh fun _ => rfl, kc F8, kM2 F9, kA F10 (Za.refl _)⟩
   rw [HA.o];simp only [Act.put, nA, nB, nC]
  ·refine Zc9 (n := 12) rfl rfl [7] (by kernel_rfl) (fun l a u hI hs hun hD => ?_) ho';obtain ⟨x0, x1, x2, x3, x4, x5, x6, x7, x8, x9, x10, ha, hu, F0, F1, F2, F3, F4, F5, F6, F7, F8, F9, F10⟩ := hI;rw [HA.o] at ha;simp only [Act.put, nA, nB, nC] at ha;subst ha;have e7 := F7.o (hD 7 (by simp));have HPU := zh (HEY.o.later hu);have g0 := cz4 HPU.o.pb;have fg0 := fz HPU.o.pb;go_wp2_with fail
   first | refine Zaf ?_ | skip
   unfold Zd0;refine ⟨x0, x1, x2, x3, x4, x5, x6, x7, .int .i64 p.main, x9, x10, ?_, hu.trans (Za.refl _),
    kc F0, kc F1, kQ Zee.fam F2 (Za.refl _), Zf4 F3 (Za.refl _), kc F4, kc F5, kQ2 RGR.fam F6 (Za.refl _), kc F7, zh fun _ => rfl, kM2 F9, kA F10 (Za.refl _)⟩
   rw [HA.o];simp only [Act.put, List.setIfInBounds_toArray, List.set_cons_zero, List.set_cons_succ, e7]
  ·refine Zc9 (n := 12) rfl rfl [2, 6, 8] (by kernel_rfl) (fun l a u hI hs hun hD => ?_) ho';obtain ⟨x0, x1, x2, x3, x4, x5, x6, x7, x8, x9, x10, ha, hu, F0, F1, F2, F3, F4, F5, F6, F7, F8, F9, F10⟩ := hI;rw [HA.o] at ha;simp only [Act.put, nA, nB, nC] at ha;subst ha;have e2 := F2.o (hD 2 (by simp));have e6 := F6.o (hD 6 (by simp));have e8 := F8.o (hD 8 (by simp));obtain ⟨_, k2r, -⟩ := e2;obtain ⟨A2r, c2r, h2r, -⟩ := k2r;obtain ⟨⟨_, _, -, k6r, -⟩, -⟩ := e6;obtain ⟨A6r, c6r, h6r, -⟩ := k6r;go_wp2_with fail
   first | refine Zaf ?_ | skip
   unfold Zd0;refine ⟨x0, x1, x2, x3, x4, x5, x6, x7, x8, .agg #[.slice none 0 0, x2, x6, .int .i64 p.main, .slice none 0 0], x10, ?_, hu.trans (Za.refl _),
    kc F0, kc F1, kQ Zee.fam F2 (Za.refl _), Zf4 F3 (Za.refl _), kc F4, kc F5, kQ2 RGR.fam F6 (Za.refl _), kc F7, kc F8, zh fun _ => ⟨rfl, Zfe (hD 2 (by simp)), Zfe (hD 6 (by simp))⟩, kA F10 (Za.refl _)⟩
   rw [HA.o];simp only [Act.put, List.setIfInBounds_toArray, List.set_cons_zero, List.set_cons_succ, e8, h2r, h6r]
  ·refine Zc9 (n := 12) rfl rfl [] (by kernel_rfl) (fun l a u hI hs hun hD => ?_) ho';obtain ⟨x0, x1, x2, x3, x4, x5, x6, x7, x8, x9, x10, ha, hu, F0, F1, F2, F3, F4, F5, F6, F7, F8, F9, F10⟩ := hI;rw [HA.o] at ha;simp only [Act.put, nA, nB, nC] at ha;subst ha;go_wp2_with fail
   first | refine Zaf ?_ | skip
   unfold Zd0;refine ⟨x0, x1, x2, x3, x4, x5, x6, x7, x8, x9, .pointer (some ⟨u.heap.size, 0, none⟩), ?_, hu.trans ((Za.refl _).alloc _),
    kc F0, kc F1, kQa Zee.fam F2 ((Za.refl _).alloc _), Zf4 F3 ((Za.refl _).alloc _), kc F4, kc F5, Zve RGR.fam F6 ((Za.refl _).alloc _), kc F7, kc F8, kM2 F9, zh fun _ => AlR.new _ hu⟩
   rw [HA.o];simp only [Act.put, nA, nB, nC]
 ·intro i hi
  cases hi
 ·intro a u hI;obtain ⟨x0, x1, x2, x3, x4, x5, x6, x7, x8, x9, x10, ha, hu, F0, F1, F2, F3, F4, F5, F6, F7, F8, F9, F10⟩ := hI;rw [HA.o] at ha;simp only [Act.put, nA, nB, nC] at ha;subst ha;obtain ⟨⟨R, U, hre, hgl, hdm, hdj, hN⟩, -⟩ := F6.o (Zg2 (by kernel_rfl));obtain ⟨OB, e10, hB, hWB⟩ := F10.o (Zg2 (by kernel_rfl));have hNO := hN OB ⟨(Zg2 (by kernel_rfl)), by rw [e10]; rfl⟩;have e9 := (F9.o (Zg2 (by kernel_rfl))).1;clear F0 F1 F2 F3 F4 F5 F6 F7 F8 F9 F10 hN HA A;subst e10;obtain ⟨Ae, ce, rfl, -⟩ := id hre;obtain ⟨Ag, cgg, rfl, -⟩ := id hgl;subst e9;have hcm := CmS.start (w0 := w1) (C := (fun b => b = CB ∨ (fun _ : Nat => False) b)) (p := p) (HLY.o.trans hu) hB rfl (Nat.le_trans HLY.o.size hWB) hre hgl (fun b hb => ⟨Nat.le_trans HLY.o.size (hdm b hb).1, (hdm b hb).2, fun e => hNO (e ▸ hb), fun hc => hc.elim (fun e => by have := (hdm b hb).1; have := HCB.o; omega) id⟩) (fun b hc => hc.elim (fun e => by have := HCB.o; have := hu.size; exact ⟨by omega, by omega, by omega⟩) False.elim) hdj;obtain ⟨w4, hw4⟩ : ∃ z, z = Zbh u OB 0 [.slice none 0 0, .slice Ae p.aA.length ce, .slice Ag p.globals.length cgg, .int .i64 p.main, .slice none 0 0] := ⟨_, rfl⟩;rw [← hw4] at hcm;have HK4 := zh (show Zb (fun b => b ≠ OB) u w4 by rw [hw4]; exact Zbn (fun h => h rfl) _ u 0 (Zb.refl _ _));simp only [Zbh, Nat.zero_add, Nat.reduceAdd] at hw4;have HW4 := zh hw4;have HCM := zh hcm;have HBK := zh hB;have HU := zh hu;have HWB := zh hWB;clear hw4 hcm hB hu hre hgl hdm hdj hNO hWB
  have b0 := cz5 HBK.o;have fb0 := fz HBK.o;go_upto_region 5 with (fail);rw [← HW4.o];clear HW4 b0 fb0;have HNC : Hd (CB ≠ OB) := zh (by have := HCB.o; have := HWB.o; omega);have HC4 : Hd (w4.heap[CB]? = some (.cells #[.slice none 0 0, .bool false] Zoi (0, 0))) := zh ((HK4.o.same CB HNC.o (Nat.lt_of_lt_of_le HCB.o.2 HU.o.size)).trans ((HU.o.block CB HCB.o.2).trans HC3.o));have HI0 := zh (show CmI N w1 w4 p CB OB R U (.slice Ae p.aA.length ce) (.slice Ag p.globals.length cgg) 0 from ⟨fun _ => False, _, _, _, .slice none 0 0, [], false, HCM.o, ⟨HC4.o, Zah.nil _ _ _ _ _, by simp, fun _ => rfl, (fun h => by cases h), fun h => h, fun b h => h.elim⟩, rfl, fun _ => rfl⟩);have HE4 := zh (HE.o.later HCM.o.bel);clear HC4 HCM HK4;have g0 := cz4 HE4.o.pb;have fg0 := fz HE4.o.pb
  go_upto_block 0 with (fail)
  refine @Zc0 _ cmLp ?R1 _ _ _ _ ?h ?k
  case h =>
   refine Zr5 N F w4 p A1 A2 A3 k1 k2 k3 PB ZB CB OB w1 HE HFL HRT R U _ _ HI0 (zh ?hf)
   case hf => exact FmL.mk' rfl rfl rfl rfl rfl rfl rfl rfl rfl
  case k =>
  rintro a' w5 ⟨hf, G, H, crs, rv, iv, L0, ov, hcm, him, hcl, hcr⟩;obtain ⟨frx, rfl⟩ := hf.opn;have hov := him.ov_eq;rw [Zpf] at hov him hcr;have HC5 := zh hcm;have HL5 := zh (show Za w1 w5 from hcm.bel);have HZ5 := zh ((Below.block HL5.o _ (Zc HZ.o)).trans HZ.o);clear hf hcm g0 fg0;obtain ⟨Ai, ci, rfl, -⟩ := id him.row;have HIM := zh him;have HCR := zh hcr;have HOVE := zh hov;have m0 := cz2 him.blk;have fm0 := fz him.blk;clear him hcr hov hcl
  cases ov with
  | true =>
   have HOV := zh (of_decide_eq_true HOVE.o.symm);have z0 := cz5 HZ5.o;have fz0 := fz HZ5.o;go_wp2_with fail;have hd := Zgo.zero (Zbg HZB.o.1 Zhn w5 0 (HLb.o.trans HL5.o));simp only [Zbh, Zhn, Nat.zero_add, Nat.reduceAdd] at hd;rw [show Rr = (cdZ, false) by rw [HR.o]; unfold Zfz; rw [if_pos HQ.o.symm, if_pos HOV.o]];exact bodyPost_ret (v := .tuple #[.agg #[.slice none 0 0, .slice none 0 0, .slice none 0 0, .int .i64 0, .slice none 0 0], .bool false]) (by simp [results, Tryz.results8, go_sem, z0, fz0]) rfl hd
  | false =>
  have HOV := zh (of_decide_eq_false HOVE.o.symm);obtain rfl := HIM.o.off rfl;obtain rfl := HCR.o (by have := HOV.o; omega);obtain ⟨Ar, cr, rfl, -⟩ := id HC5.o.rr;have o0 := cz5 HC5.o.ob;have fo0 := fz HC5.o.ob;have hres := HC5.o.done HIM.o.row (fun b hb => .inr hb) HM.o;have HOB6 : Hd ((w5.setCell ⟨OB, 4, none⟩ (.slice Ai (Za5 (cg (N + 1)) p.routines 0).2.length ci)).heap[OB]? = some (.cells #[.slice Ar (Za5 (cg (N + 1)) p.routines 0).1.length cr, .slice Ae p.aA.length ce, .slice Ag p.globals.length cgg, .int .i64 p.main, .slice Ai (Za5 (cg (N + 1)) p.routines 0).2.length ci] Zdc (0, 0))) := zh (by have := Za1 (o := 4) HC5.o.ob (.slice Ai (Za5 (cg (N + 1)) p.routines 0).2.length ci); simpa using this);have HZ6 : Hd ((w5.setCell ⟨OB, 4, none⟩ (.slice Ai (Za5 (cg (N + 1)) p.routines 0).2.length ci)).heap[ZB]? = some (.cells #[.slice none 0 0, .slice none 0 0, .slice none 0 0, .int .i64 0, .slice none 0 0] Zdc (0, 0))) := zh ((Below.heap_setCell _ _ _ _ (show ZB ≠ OB by have := HZB.o; have := HC5.o.lo; omega)).trans HZ5.o);obtain ⟨wz, hwz⟩ : ∃ z, w5.setCell ⟨OB, 4, none⟩ (.slice Ai (Za5 (cg (N + 1)) p.routines 0).2.length ci) = z := ⟨_, rfl⟩;rw [hwz] at hres HOB6 HZ6;have HRS := zh hres;clear hres;go_upto_region 16 with (fail)
  try rw [hwz]
  clear hwz o0 fo0;have o0 := cz5 HOB6.o;have fo0 := fz HOB6.o;have z0 := cz5 HZ6.o;have fz0 := fz HZ6.o;go_wp2_with fail;have hd := Zgo.of (t := true) HLb.o HZB.o.1 HZB.o.2 HRS.o;simp only [Zbh, Nat.zero_add, Nat.reduceAdd] at hd;rw [show Rr = (⟨(Za5 (cg (N + 1)) p.routines 0).1, p.aA, p.globals, p.main, (Za5 (cg (N + 1)) p.routines 0).2⟩, true) by rw [HR.o]; unfold Zfz; rw [if_pos HQ.o.symm, if_neg HOV.o]];exact bodyPost_ret (v := .tuple #[.agg #[.slice Ar (Za5 (cg (N + 1)) p.routines 0).1.length cr, .slice Ae p.aA.length ce, .slice Ag p.globals.length cgg, .int .i64 p.main, .slice Ai (Za5 (cg (N + 1)) p.routines 0).2.length ci], .bool true]) (by simp [results, Tryz.results8, go_sem, z0, fz0]) rfl hd
section
section
variable {w x y X : World} {MB : Nat} {Gc Gl Gb : Nat → Prop} {L : List Ze} {ls : List Zak} {m : Nat} {bs : List Int} {cv lv bv v2 : Value}
theorem SpK.patchLast {i0 : Ze} (h : SpK w MB Gc Gl Gb (L ++ [i0]) ls m bs cv lv bv) {q : Nat} (hq : q < 5) :
  ∃ b c, cv = .slice (some ⟨b, 0, none⟩) (L.length + 1) c ∧ L.length + 1 ≤ c ∧ c ≤ maxLen ∧ Gc b ∧ b < w.heap.size ∧ (∃ u, w.cell? ⟨b, L.length * 5 + q, none⟩ = some u) ∧ (∀ o, w.frozen? ⟨b, o, none⟩ = false) ∧
   ∀ (a : Ze) (u : Value), (∀ G x, Zbi G x a ([.int .i64 i0.op, .int .i64 i0.a, .int .i64 i0.b, .int .i64 i0.line, .string i0.text].set q u)) → SpK (w.setCell ⟨b, L.length * 5 + q, none⟩ u) MB Gc Gl Gb (L ++ [a]) ls m bs cv lv bv := by
 obtain ⟨b, c, h0, h1, h2, h3, h4, h5, h6, h7⟩ := h.patch (i := L.length) (q := q) (by simp) hq;simp only [List.length_append, List.length_singleton] at h0 h1;refine ⟨b, c, h0, h1, h2, h3, h4, h5, h6, fun a u ha => ?_⟩;have := h7 a u (by simpa using ha)
 simpa using this
theorem SpK.pushL (h : SpK w MB Gc Gl Gb L ls m bs cv lv bv) {a : Zak} (hX : Za w X) (hrow : Zah Zie 3 TSl (fun b => Gl b ∨ False ∨ b = X.heap.size) y (ls ++ [a]) v2) (hk : Zb (fun b => ¬ Gl b) X y) :
  SpK (y.setCell ⟨MB, 1, none⟩ v2) MB Gc (fun b => (Gl b ∨ False ∨ b = X.heap.size) ∧ b < y.heap.size) Gb L (ls ++ [a]) m bs cv v2 bv := by
 have hlt := Zc h.blk;have hs := hX.size;have hn : ¬ (Gl MB ∨ False ∨ MB = X.heap.size) := by
  rintro (e | e | e)
  ·exact h.nM.2.1 e
  ·exact e
  ·omega
 have hb : y.heap[MB]? = some (.cells #[cv, lv, .int .i64 m, bv] TSt (0, 0)) := (hk.same MB h.nM.2.1 (by omega)).trans ((hX.block MB hlt).trans h.blk);have hkl : Zb (fun b => Gc b ∨ Gb b) w (y.setCell ⟨MB, 1, none⟩ v2) := ((Zb.later hX).trans (hk.mono fun b hb hl => by
  rcases hb with hb | hb
  ·exact (h.dC b hb).1 hl
  ·exact h.dL b hl hb)).set (fun e => e.elim h.nM.1 h.nM.2.2) _ _
 refine h.loops' hkl (by have := Za1 (o := 1) hb v2; simpa using this) ((hrow.trim Zcb).keep Zcb.is (fun _ h => h) ((Zb.refl _ _).set (fun h => hn h.1) _ _)) (fun b hb => ?_) (fun b hb => by simpa using hb.2)
 rcases hb.1 with e | e | e
 ·exact .inl e
 ·exact e.elim
 ·exact .inr (by omega)
theorem SpK.pushB (h : SpK w MB Gc Gl Gb L ls m bs cv lv bv) {a : Int} (hX : Za w X) (hrow : Zah Zc1 1 Zco (fun b => Gb b ∨ False ∨ b = X.heap.size) y (bs ++ [a]) v2) (hk : Zb (fun b => ¬ Gb b) X y) :
  SpK (y.setCell ⟨MB, 3, none⟩ v2) MB Gc Gl (fun b => (Gb b ∨ False ∨ b = X.heap.size) ∧ b < y.heap.size) L ls m (bs ++ [a]) cv lv v2 := by
 have hlt := Zc h.blk;have hs := hX.size;have hn : ¬ (Gb MB ∨ False ∨ MB = X.heap.size) := by
  rintro (e | e | e)
  ·exact h.nM.2.2 e
  ·exact e
  ·omega
 have hb : y.heap[MB]? = some (.cells #[cv, lv, .int .i64 m, bv] TSt (0, 0)) := (hk.same MB h.nM.2.2 (by omega)).trans ((hX.block MB hlt).trans h.blk);have hkl : Zb (fun b => Gc b ∨ Gl b) w (y.setCell ⟨MB, 3, none⟩ v2) := ((Zb.later hX).trans (hk.mono fun b hb hl => by
  rcases hb with hb | hb
  ·exact (h.dC b hb).2 hl
  ·exact h.dL b hb hl)).set (fun e => e.elim h.nM.1 h.nM.2.1) _ _
 refine h.base' hkl (by have := Za1 (o := 3) hb v2; simpa using this) ((hrow.trim Zap).keep Zap.is (fun _ h => h) ((Zb.refl _ _).set (fun h => hn h.1) _ _)) (fun b hb => ?_) (fun b hb => by simpa using hb.2)
 rcases hb.1 with e | e | e
 ·exact .inl e
 ·exact e.elim
 ·exact .inr (by omega)
theorem Zah.pop {α : Type} {S : Za6 α} {size : Nat} {T : TypeId} {F : Nat → Prop} {l : List α} {a : α} {v : Value} (h : Zah S size T F w (l ++ [a]) v) :
  ∃ (b c : Nat) (Fi : Nat → Prop) (cs : List Value), v = .slice (some ⟨b, 0, none⟩) (l.length + 1) c ∧ l.length + 1 ≤ c ∧ c ≤ maxLen ∧ (∀ j x, cs[j]? = some x → w.cell? ⟨b, l.length * size + j, none⟩ = some x) ∧ S Fi w a cs ∧ (∀ z, Fi z → F z ∧ z ≠ b) ∧ Zah S size T (fun z => F z ∧ ¬ Fi z) w l (.slice (some ⟨b, 0, none⟩) l.length c) := by
 obtain ⟨A, c, rfl, h1, h2, h3⟩ := h;simp only [List.length_append, List.length_singleton] at h1;obtain ⟨b, o, cur, tag, rfl, hF, hb, ⟨rfl, hcp⟩, hel⟩ := h3 (by omega);obtain ⟨cs, hs, hc⟩ := hel l.length (by simp);refine ⟨b, c, fun z => (F z ∧ z ≠ b) ∧ tag z = l.length, cs, by simp, h1, h2, fun j x hx => ?_, by simpa using hs, fun z hz => hz.1, some ⟨b, 0, none⟩, c, rfl, by omega, h2, fun _ => ⟨b, 0, cur, tag, rfl, ⟨hF, fun h => h.1.2 rfl⟩, hb, ⟨rfl, hcp⟩, fun i hi => ?_⟩⟩
 ·rw [cell_of_row _ _ _ _ _ _ hb];have := hc j x hx
  rwa [Nat.zero_add] at this
 ·obtain ⟨cs', h4, h5⟩ := hel i (by simp; omega);rw [List.getElem_append_left hi] at h4;refine ⟨cs', ?_, h5⟩;have he : (fun z => ((F z ∧ ¬ ((F z ∧ z ≠ b) ∧ tag z = l.length)) ∧ z ≠ b) ∧ tag z = i) = (fun z => (F z ∧ z ≠ b) ∧ tag z = i) := by
   funext z
   apply propext
   constructor
   ·rintro ⟨⟨⟨h6, h7⟩, h8⟩, h9⟩; exact ⟨⟨h6, h8⟩, h9⟩
   ·rintro ⟨⟨h6, h8⟩, h9⟩; exact ⟨⟨⟨h6, fun h => by omega⟩, h8⟩, h9⟩
  rw [he];exact h4
theorem SpK.popL {a : Zak} (h : SpK w MB Gc Gl Gb L (ls ++ [a]) m bs cv lv bv) :
  ∃ (b c : Nat) (Fi : Nat → Prop) (vo : Value), lv = .slice (some ⟨b, 0, none⟩) (ls.length + 1) c ∧ ls.length + 1 ≤ c ∧ c ≤ maxLen ∧ w.cell? ⟨b, ls.length * 3 + 2, none⟩ = some vo ∧ Zah Zc1 1 Zco Fi w a.outs vo ∧ (∀ z, Fi z → z ≠ MB ∧ ¬ (Gc z ∨ (Gl z ∧ ¬ Fi z) ∨ Gb z)) ∧
   SpK (w.setCell ⟨MB, 1, none⟩ (.slice (some ⟨b, 0, none⟩) ls.length c)) MB Gc (fun z => Gl z ∧ ¬ Fi z) Gb L ls m bs cv (.slice (some ⟨b, 0, none⟩) ls.length c) bv := by
 obtain ⟨b, c, Fi, cs, rfl, h1, h2, hc, hS, hF, hrow⟩ := h.loops.pop;obtain ⟨vo, rfl, -, hvo⟩ := hS;refine ⟨b, c, Fi, vo, rfl, h1, h2, hc 2 _ rfl, hvo, fun z hz => ⟨fun e => h.nM.2.1 (e ▸ (hF z hz).1), fun e => ?_⟩, ?_⟩
 ·rcases e with e | e | e
  ·exact (h.dC z e).1 (hF z hz).1
  ·exact e.2 hz
  ·exact h.dL z (hF z hz).1 e
 ·exact h.loops' ((Zb.refl _ _).set (fun e => e.elim h.nM.1 h.nM.2.2) _ _) (by have := Za1 (o := 1) h.blk (.slice (some ⟨b, 0, none⟩) ls.length c); simpa using this) (hrow.keep Zcb.is (fun _ h => h) ((Zb.refl _ _).set (fun e => h.nM.2.1 e.1) _ _)) (fun _ h => .inl h.1) (fun b hb => by simpa using h.lt b (.inr (.inl hb.1)))
theorem SpK.cutB (h : SpK w MB Gc Gl Gb L ls m bs cv lv bv) {n : Nat} (hn : n ≤ bs.length) {A : Option Addr} {c : Nat} (hv : bv = .slice A bs.length c) : SpK (w.setCell ⟨MB, 3, none⟩ (.slice A n c)) MB Gc Gl Gb L ls m (bs.take n) cv lv (.slice A n c) := by
 obtain ⟨A', c', e, -, hrow⟩ := h.base.cut hn;rw [hv] at e;cases e;refine h.base' ((Zb.refl _ _).set (fun e => e.elim h.nM.1 h.nM.2.1) _ _) (by have := Za1 (o := 3) h.blk (.slice A n c); simpa using this) (hrow.keep Zap.is (fun _ h => h) ((Zb.refl _ _).set h.nM.2.2 _ _)) (fun _ h => .inl h) (fun b hb => by simpa using h.lt b (.inr (.inr hb)))
end
end
theorem Zma (MB : Nat) (Gc Gl Gb : Nat → Prop) (L : List Ze) (ls : List Zak) (m : Nat) (bs : List Int) (cv lv bv : Value) (op a line : Int) (w : World) (hs : SpK w MB Gc Gl Gb L ls m bs cv lv bv) (h1 : Zi op) (h2 : Zi a) (h4 : Zi line) (hl : L.length ≤ 134217728) :
  Calls Tryz.prog 28 #[.pointer (some ⟨MB, 0, none⟩), .int .i64 op, .int .i64 a, .int .i64 line] w fun e w' => e = .returned (.int .i64 (L.length : Nat)) ∧ SK w w' MB Gc Gl Gb (L ++ [Zg op a line]) ls m bs lv bv := by
 have HS := zh hs;obtain ⟨Ac, cc, rfl, hcc, hcm, -⟩ := id hs.code;obtain ⟨Al, cl, rfl, hlc, hlm, -⟩ := id hs.loops;obtain ⟨Ab, cb, rfl, hbc, hbm, -⟩ := id hs.base;obtain ⟨iI, hiI, hz0, hz1, hz2⟩ := info_parts Zo9;have b0 := cz4 hs.blk;have fb0 := fz hs.blk;clear hs;have hX : Za w (w.alloc (.cells #[.int .i64 op, .int .i64 a, .int .i64 0, .int .i64 line, .string ⟨#[]⟩] Zhs)) := (Za.refl _).alloc _;have HX := zh hX;have HROW := zh (HS.o.code.keep Z9.is (fun _ h => h) (Zb.later hX));have HEL := zh (show Zbi (fun _ => False) (w.alloc (.cells #[.int .i64 op, .int .i64 a, .int .i64 0, .int .i64 line, .string ⟨#[]⟩] Zhs)) ⟨op, a, 0, line, ⟨#[]⟩⟩ [.int .i64 op, .int .i64 a, .int .i64 0, .int .i64 line, .string ⟨#[]⟩] from ⟨rfl, h1, h2, by show Zi 0; unfold Zi; omega, h4, Nat.zero_le _⟩);have HNO : Hd (∀ y, (fun _ : Nat => False) y → ¬ Gc y) := zh (fun _ h => h.elim);have tl : IntKind.i64.wrap (((L.length + 1 : Nat) : Int) - 1) = (L.length : Int) := by rw [IntWalk.i64_in _ (by omega)]; omega
 clear hX h1 h2 h4;go_enter Tryz.func28, Tryz.ntmps28
 go_wp2_with (at_builtin; refine Zbd Z9 rfl _ _ 30 rfl Zhs iI (.agg #[.int .i64 0, .int .i64 0, .int .i64 0, .int .i64 0, .string ⟨#[]⟩]) 48 Tryz.underlying30 hiI hz0 hz1 hz2 rfl rfl HROW.o ⟨w.heap.size, 0, none⟩ 1 rfl ⟨op, a, 0, line, ⟨#[]⟩⟩ [.int .i64 op, .int .i64 a, .int .i64 0, .int .i64 line, .string ⟨#[]⟩] (Zgi w [.int .i64 op, .int .i64 a, .int .i64 0, .int .i64 line, .string ⟨#[]⟩] Zhs) (by intro u hu; simp at hu; rcases hu with rfl | rfl | rfl | rfl | rfl <;> rfl) HEL.o HNO.o (by omega) (by decide) ?_; intro v2 Y hrow hkp hb0; obtain ⟨A2, c2, hv2, -⟩ := id hrow; rw [show (L ++ [(⟨op, a, 0, line, ⟨#[]⟩⟩ : Ze)]).length = L.length + 1 by simp] at hv2; subst hv2; have hpush := HS.o.push HX.o (H := fun _ => False) (fun _ h => h.elim) hrow hkp; have HP := zh hpush; have hYB : Y.heap[MB]? = some (.cells #[.slice Ac L.length cc, .slice Al ls.length cl, .int .i64 m, .slice Ab bs.length cb] TSt (0, 0)) := (hkp.same MB HS.o.nM.1 (Nat.lt_of_lt_of_le (Zc HS.o.blk) HX.o.size)).trans ((HX.o.block MB (Zc HS.o.blk)).trans HS.o.blk); have y0 := cz4 hYB; have fy0 := fz hYB; have HTN := zh (Tn.set (P := fun b => b = MB ∨ Gc b) (Tn.trans (R := fun b => b = MB ∨ Gc b) (Tn.later (P := fun _ => False) HX.o) (Tn.mk (P := Gc) hkp hb0) (fun _ h => h.elim) (fun b _ hb => .inr hb)) (c := MB) (.inl rfl) 0 (.slice A2 (L.length + 1) c2)); have HXS := zh HX.o.size)
 go_ret;refine ⟨Zae (by simp), ?_⟩;unfold SK;refine ⟨_, _, HP.o, fun b hb => ?_, HTN.o⟩
 rcases hb with ⟨h | h | h, -⟩
 ·exact .inl h
 ·exact h.elim
 ·exact .inr (Nat.le_trans HXS.o (Nat.le_of_eq h.symm))
theorem Z8 (MB : Nat) (G : Nat → Prop) (L : List Ze) (ls : List Zak) (m : Nat) (bs : List Int) (op a line : Int) (w : World) (h : SS w w MB G G L ls m bs) (h1 : Zi op) (h2 : Zi a) (h4 : Zi line) (hl : L.length ≤ 134217728) :
  Calls Tryz.prog 28 #[.pointer (some ⟨MB, 0, none⟩), .int .i64 op, .int .i64 a, .int .i64 line] w fun e w' => e = .returned (.int .i64 (L.length : Nat)) ∧ ∃ G', SS w w' MB G G' (L ++ [Zg op a line]) ls m bs := by
 obtain ⟨Gc, Gl, Gb, cv, lv, bv, hs, hG⟩ := h.st;refine (Zma MB Gc Gl Gb L ls m bs cv lv bv op a line w hs h1 h2 h4 hl).mono ?_;rintro e w' ⟨rfl, Gc', cv', hs', hg, ht⟩;exact ⟨rfl, hs'.ss hG hg ht⟩
theorem Zc8 (n : Nat) (IH : Zci n) (w : World) (MB : Nat) (G : Nat → Prop) (L : List Ze) (lp : Option Zr) (ls : List Zak) (bs : List Int) (ex : List Nat) (F : Nat → Prop) (c : Zd) (A : Option Addr) (k m B : Nat) (fail : Int) (HS : Hd (SS w w MB G G L (stL lp ls ex) m (stB lp bs))) (HP : Hd (CxP n w MB G (L.length + 1) lp (ex.length + ls.length + bs.length) F c A k (m + 1) B)) (hf : Zi fail) :
  Calls Tryz.prog 27 #[.pointer (some ⟨MB, 0, none⟩), c.val A k, .int .i64 fail] w fun e w' => e = .returned (.int .i64 (L.length : Nat)) ∧ ∃ G', SS w w' MB G G' (L ++ (Zg 13 fail c.line :: ((cg (n + 1) c (m + 1) lp (L.length + 1)).1 ++ [Zg 14 0 c.line]))) (stL lp ls (ex ++ (cg (n + 1) c (m + 1) lp (L.length + 1)).2)) m (stB lp bs) := by
 unfold Zd.val;have hlwb : Za w (w.alloc (.cells #[.int .i64 c.kind, .int .i64 c.op, .int .i64 c.aB, .int .i64 c.line, .string c.text, .slice A c.kids.length k] 68)) := (Za.refl _).alloc _;obtain ⟨wb, hwb⟩ : ∃ z, w.alloc (.cells #[.int .i64 c.kind, .int .i64 c.op, .int .i64 c.aB, .int .i64 c.line, .string c.text, .slice A c.kids.length k] 68) = z := ⟨_, rfl⟩;rw [hwb] at hlwb;have HB := zh (show wb.heap[w.heap.size]? = some (.cells #[.int .i64 c.kind, .int .i64 c.op, .int .i64 c.aB, .int .i64 c.line, .string c.text, .slice A c.kids.length k] 68 (0, 0)) by rw [← hwb]; exact heap_alloc_new _ _);have hNP : ¬ (w.heap.size = MB ∨ G w.heap.size) := by
  obtain ⟨_, _, _, _, _, _, hs, -⟩ := HS.o.st;rintro (h | h)
  ·have := HS.o.below; omega
  ·have := HS.o.lt _ h; omega
 have HSb := zh ((HS.o.later hlwb).here);have HLb := zh hlwb;have hn3 := HP.o.cv.n3;have hmb := HP.o.mb;have hlb := HP.o.lb;have hlen : (cg (n + 1) c (m + 1) lp (L.length + 1)).1.length ≤ Z0 c * B := Zgl HP.o.ok HP.o.lm HP.o.bB;have tm1 : IntKind.i64.wrap ((m : Int) + 1) = ((m + 1 : Nat) : Int) := by rw [IntWalk.i64_in _ (by omega)]; rfl
 have tm2 : IntKind.i64.wrap (((m + 1 : Nat) : Int) - 1) = (m : Int) := by rw [IntWalk.i64_in _ (by omega)]; omega
 have tm0 : IntKind.i64.wrap (m : Int) = (m : Int) := IntWalk.i64_in _ (by omega);have c0 := cz6 HB.o;have fc0 := fz HB.o;go_enter Tryz.func27, Tryz.ntmps27;go_wp2_with fail;refine (Z8 MB G L _ _ _ 13 fail c.line wb HSb.o (by unfold Zi; omega) hf hn3 (by omega)).mono ?_;rintro e w1 ⟨rfl, G1, hs1⟩;have HS1 := zh hs1;clear hs1;clear c0 fc0;obtain ⟨Gc, Gl, Gb, cv, lv, bv, hs, hG⟩ := HS1.o.st;have HSK := zh hs;have HGK := zh hG;have b0 := cz4 hs.blk;have fb0 := fz hs.blk;clear hs hG;obtain ⟨w2, hwn⟩ : ∃ z, w1.setCell ⟨MB, 2, none⟩ (.int .i64 ((m : Int) + 1)) = z := ⟨_, rfl⟩;have hsn := SS.of0 (x := w2) HS1.o.lt HGK.o (by rw [← hwn]; exact HSK.o.setM (m + 1)) (by rw [← hwn]; exact Tn.set (Tn.refl _ _) (.inl rfl) _ _);have HS2 := zh (HS1.o.trans hsn);clear hsn;have HBk := zh (HS2.o.tn.has HB.o hNP);have c0 := cz6 HBk.o;have fc0 := fz HBk.o;clear HBk;have hP2 := (CxP.move HP.o (HS2.o.keeps' HLb.o HP.o.fr) (Nat.le_trans HLb.o.size HS2.o.tn.size) (HS2.o.off HLb.o HP.o.fr HP.o.flt));have HP2 := zh (hP2.cast (show L.length + 1 = (L ++ [Zg 13 fail c.line]).length by simp));clear hP2;go_wp2_with fail;refine (IH w2 MB G1 (L ++ [Zg 13 fail c.line]) lp ls bs ex F c A k (m + 1) B (zh HS2.o.here) HP2).mono ?_;rintro e w3 ⟨rfl, G3, hs3⟩;have HS3 := zh (HS2.o.trans hs3);clear hs3 hwn;clear b0 fb0;clear c0 fc0;obtain ⟨Gc, Gl, Gb, cv, lv, bv, hs, hG⟩ := HS3.o.st;have HSK := zh hs;have HGK := zh hG
 have b0 := cz4 hs.blk;have fb0 := fz hs.blk;clear hs hG;obtain ⟨w4, hwn⟩ : ∃ z, w3.setCell ⟨MB, 2, none⟩ (.int .i64 ((m : Int))) = z := ⟨_, rfl⟩;have hsn := SS.of0 (x := w4) HS3.o.lt HGK.o (by rw [← hwn]; exact HSK.o.setM (m)) (by rw [← hwn]; exact Tn.set (Tn.refl _ _) (.inl rfl) _ _);have HS4 := zh (HS3.o.trans hsn);clear hsn;have HBk := zh (HS4.o.tn.has HB.o hNP);have c0 := cz6 HBk.o;have fc0 := fz HBk.o;clear HBk;rw [List.length_append, List.length_singleton] at HS4;go_wp2_with fail;refine (Z8 MB G3 _ _ _ _ 14 0 c.line w4 HS4.o.here (by unfold Zi; omega) (by unfold Zi; omega) hn3 (by simp; omega)).mono ?_;rintro e w5 ⟨rfl, G5, hs5⟩;have HS5 := zh (HS.o.trans (((HS.o.here.later HLb.o).trans (HSb.o.trans (HS4.o.trans hs5)))));clear hs5;go_wp2_with fail;go_ret;exact ⟨rfl, G5, HS5.o.cast (by simp) rfl⟩
theorem Zb9 (MB : Nat) (G : Nat → Prop) (L : List Ze) (ls : List Zak) (m : Nat) (bs : List Int) (i : Nat) (w : World) (h : SS w w MB G G L ls m bs) (hi : i < L.length) (hl : L.length ≤ 134217730) :
  Calls Tryz.prog 26 #[.pointer (some ⟨MB, 0, none⟩), .int .i64 i] w fun e w' => e = .returned (.tuple #[]) ∧ SS w w' MB G G (Zei i (L.length : Int) L) ls m bs := by
 obtain ⟨Gc, Gl, Gb, cv, lv, bv, hs, hG⟩ := h.st;have HS := zh hs;have HG := zh hG;have HGL := zh h.lt;obtain ⟨Ac, cc, rfl, hcc, hcm, -⟩ := id hs.code;obtain ⟨Al, cl, rfl, hlc, hlm, -⟩ := id hs.loops;obtain ⟨Ab, cb, rfl, hbc, hbm, -⟩ := id hs.base;have b0 := cz4 hs.blk;have fb0 := fz hs.blk;clear hs hG h;have hi2 : (i : Int) < (L.length : Int) := by omega
 obtain ⟨b, c, e, -⟩ := HS.o.patch hi (q := 1) (by decide);cases e;go_enter Tryz.func26, Tryz.ntmps26;go_upto_region 0 with (fail);refine Z3 [12] [] (by kernel_rfl) (fun W hW => ?_);have hlW : Za w W := by rw [hW]; exact (Za.refl _).drew
 clear hW b0 fb0;have HSW := zh (HS.o.later hlW);have HLW := zh hlW;clear hlW;refine tU 0 4 (v := ?_) rfl rfl (fun x hx => ?_) ?_;rotate_left
 ·go_simp;first|done|with_reducible rfl
 simp only [Act.put, nA, nB, nC];refine tU 1 5 (v := ?_) rfl rfl (fun x hx => ?_) ?_;rotate_left
 ·go_simp;first|done|with_reducible rfl
 simp only [Act.put, nA, nB, nC];refine tU 2 6 (v := ?_) rfl rfl (fun x hx => ?_) ?_;rotate_left
 ·go_simp;first|done|with_reducible rfl
 simp only [Act.put, nA, nB, nC];refine tU 3 7 (v := ?_) rfl rfl (fun x hx => ?_) ?_;rotate_left
 ·have hxb := (hx.block _ (Zc HSW.o.blk)).trans HSW.o.blk; have b0 := cz4 hxb; have fb0 := fz hxb; go_simp; first|done|with_reducible rfl
 simp only [Act.put, nA, nB, nC];refine tU 4 8 (v := ?_) rfl rfl (fun x hx => ?_) ?_;rotate_left
 ·go_simp;first|done|with_reducible rfl
 simp only [Act.put, nA, nB, nC];refine tU 5 9 (v := ?_) rfl rfl (fun x hx => ?_) ?_;rotate_left
 ·go_simp;first|done|with_reducible rfl
 simp only [Act.put, nA, nB, nC];refine tU 6 10 (v := ?_) rfl rfl (fun x hx => ?_) ?_;rotate_left
 ·go_simp;first|done|with_reducible rfl
 simp only [Act.put, nA, nB, nC];refine tU 7 11 (v := ?_) rfl rfl (fun x hx => ?_) ?_;rotate_left
 ·go_simp;first|done|with_reducible rfl
 simp only [Act.put, nA, nB, nC];refine tU 8 12 (v := ?_) rfl rfl (fun x hx => ?_) ?_;rotate_left
 ·have hxb := (hx.block _ (Zc HSW.o.blk)).trans HSW.o.blk; have b0 := cz4 hxb; have fb0 := fz hxb; go_simp; first|done|with_reducible rfl
 simp only [Act.put, nA, nB, nC];refine tU 9 13 (v := ?_) rfl rfl (fun x hx => ?_) ?_;rotate_left
 ·go_simp;first|done|with_reducible rfl
 simp only [Act.put, nA, nB, nC];refine tU 10 14 (v := ?_) rfl rfl (fun x hx => ?_) ?_;rotate_left
 ·go_simp;first|done|with_reducible rfl|rw[if_neg (by omega)]|rw[if_pos (by omega)]
 simp only [Act.put, nA, nB, nC];refine tU 11 15 (v := ?_) rfl rfl (fun x hx => ?_) ?_;rotate_left
 ·go_simp;first|done|with_reducible rfl
 simp only [Act.put, nA, nB, nC];refine Zag [_] (by kernel_rfl) rfl rfl ?_;simp only [List.getElem_toArray, List.getElem_cons_succ, List.getElem_cons_zero];obtain ⟨b', c', e, h1, h2, hGb, hb, ⟨u, hu⟩, hfr, him⟩ := HSW.o.patch hi (q := 1) (by decide);cases e;have hfu := hfr (i * 5 + 1);obtain ⟨_, _, _, _, _, hel⟩ := HSW.o.code.el Z9;obtain ⟨_, _, _, _, _, _, ⟨-, k0, k1, k2, k3, k4⟩, -⟩ := hel i hi;have h64 : Zi (L.length : Int) := ⟨by omega, by omega⟩;have hs2 := him { L[i] with a := (L.length : Int) } (.int .i64 (L.length : Int)) (fun _ _ => ⟨rfl, k0, h64, k2, k3, k4⟩);rw [show L.set i { L[i] with a := (L.length : Int) } = Zei i (L.length : Int) L by unfold Zei; rw [List.getElem?_eq_getElem hi]] at hs2;have HS2 := zh hs2;have HGB := zh hGb;clear hs2 him;go_wp2_with fail
 go_end0
 exact ⟨rfl, SS.of0 HGL.o HG.o HS2.o (Tn.set (Tn.later HLW.o) (.inr (.inl HGB.o)) _ _)⟩
theorem Zql (n : Nat) (IH : ∀ n', n = n' + 1 → Zci n') (w : World) (MB : Nat) (G : Nat → Prop) (L : List Ze) (lp : Option Zr) (ls : List Zak) (bs : List Int) (ex : List Nat) (F : Nat → Prop) (c : Zd) (A : Option Addr) (k m B : Nat) (HS : Hd (SS w w MB G G L (stL lp ls ex) m (stB lp bs))) (HP : Hd (CxP n w MB G L.length lp (ex.length + ls.length + bs.length) F c A k m B)) (ho : 1 ≤ c.kind ∧ c.kind < 11) :
  Calls Tryz.prog 71 #[.pointer (some ⟨MB, 0, none⟩), c.val A k] w (Zb5 n w MB G L lp ls bs ex c m) := by
 have HO := zh ho;unfold Zd.val;have hlwb : Za w (w.alloc (.cells #[.int .i64 c.kind, .int .i64 c.op, .int .i64 c.aB, .int .i64 c.line, .string c.text, .slice A c.kids.length k] 68)) := (Za.refl _).alloc _;obtain ⟨wb, hwb⟩ : ∃ z, w.alloc (.cells #[.int .i64 c.kind, .int .i64 c.op, .int .i64 c.aB, .int .i64 c.line, .string c.text, .slice A c.kids.length k] 68) = z := ⟨_, rfl⟩;rw [hwb] at hlwb;have HB := zh (show wb.heap[w.heap.size]? = some (.cells #[.int .i64 c.kind, .int .i64 c.op, .int .i64 c.aB, .int .i64 c.line, .string c.text, .slice A c.kids.length k] 68 (0, 0)) by rw [← hwb]; exact heap_alloc_new _ _);have hNP : ¬ (w.heap.size = MB ∨ G w.heap.size) := by
  obtain ⟨_, _, _, _, _, _, hs, -⟩ := HS.o.st;rintro (h | h)
  ·have := HS.o.below; omega
  ·have := HS.o.lt _ h; omega
 have HSb := zh ((HS.o.later hlwb).here);have HLb := zh hlwb;have hn3 := HP.o.cv.n3;have hmb := HP.o.mb;have hlb := HP.o.lb;have hbB := HP.o.bB;have hmul : Z0 c * B = Zx c.kids * B + B := by rw [Zq c, Nat.add_mul, Nat.one_mul]
 have tm1 : IntKind.i64.wrap ((m : Int) + 1) = ((m + 1 : Nat) : Int) := by rw [IntWalk.i64_in _ (by omega)]; rfl
 have tm0 : IntKind.i64.wrap (m : Int) = (m : Int) := IntWalk.i64_in _ (by omega);have c0 := cz6 HB.o;have fc0 := fz HB.o;have t11 : (c.kind == 11) = false := nH.2 (by omega);have t12 : (c.kind == 12) = false := nH.2 (by omega);have t13 : (c.kind == 13) = false := nH.2 (by omega);have t14 : (c.kind == 14) = false := nH.2 (by omega);have t15 : (c.kind == 15) = false := nH.2 (by omega);have t16 : (c.kind == 16) = false := nH.2 (by omega);have t17 : (c.kind == 17) = false := nH.2 (by omega);have t18 : (c.kind == 18) = false := nH.2 (by omega);have t19 : (c.kind == 19) = false := nH.2 (by omega);have t20 : (c.kind == 20) = false := nH.2 (by omega);have t21 : (c.kind == 21) = false := nH.2 (by omega);have t22 : (c.kind == 22) = false := nH.2 (by omega);have t23 : (c.kind == 23) = false := nH.2 (by omega);have t24 : (c.kind == 24) = false := nH.2 (by omega);have t25 : (c.kind == 25) = false := nH.2 (by omega);have t26 : (c.kind == 26) = false := nH.2 (by omega);have t27 : (c.kind == 27) = false := nH.2 (by omega);have t28 : (c.kind == 28) = false := nH.2 (by omega);have HV := zh HP.o.cv;clear ho;go_enter Tryz.func71, Tryz.ntmps71;go_wp2_with fail;refine (Z8 MB G L _ _ _ c.kind c.aB c.line wb HSb.o.here HV.o.n0 HV.o.n2 hn3 (by omega)).mono ?_;rintro e w1 ⟨rfl, G1, hs⟩;replace hs := HSb.o.trans hs;clear c0 fc0;obtain ⟨L1, hL⟩ : ∃ z, z = L ++ [Zg c.kind c.aB c.line] := ⟨_, rfl⟩;rw [← hL] at hs;have HL1 := zh (show L1 = L ++ ([Zg c.kind c.aB c.line]) by rw [hL]; try simp [Zg])
 have HN1 := zh (show L1.length = L.length + 1 by rw [hL]; simp; try omega);have HS1 := zh hs;clear hs hL;have HE1 := zh (show L1 = L ++ [Zg c.kind c.aB c.line] from HL1.o);have HBk := zh (HS1.o.tn.has HB.o hNP);have c0 := cz6 HBk.o;have fc0 := fz HBk.o;clear HBk;obtain ⟨Gc, Gl, Gb, cv, lv, bv, hs, hG⟩ := HS1.o.st;have HGK := zh hG;rw [HE1.o] at hs;have HSK := zh hs;have hbl := hs.blk;obtain ⟨b, cc, e, -⟩ := hs.patchLast (q := 4) (by decide);cases e;clear hs hG;have hi2 : (L.length : Int) < ((L.length + 1 : Nat) : Int) := by omega
 have HCB := zh (HS1.o.tn.has HB.o hNP);go_upto_region 3 with (fail);refine Z3 [9] [] (by kernel_rfl) (fun W hW => ?_);have hlW : Za w1 W := by rw [hW]; exact (Za.refl _).drew
 clear hW hbl c0 fc0;have HSW := zh (HSK.o.later hlW);have HCW := zC hlW HCB;have HLW := zh hlW;clear hlW;refine tU 0 27 (v := ?_) rfl rfl (fun x hx => ?_) ?_;rotate_left
 ·go_simp;first|done|with_reducible rfl
 simp only [Act.put, nA, nB, nC];refine tU 1 28 (v := ?_) rfl rfl (fun x hx => ?_) ?_;rotate_left
 ·go_simp;first|done|with_reducible rfl
 simp only [Act.put, nA, nB, nC];refine tU 2 29 (v := ?_) rfl rfl (fun x hx => ?_) ?_;rotate_left
 ·go_simp;first|done|with_reducible rfl
 simp only [Act.put, nA, nB, nC];refine tU 3 30 (v := ?_) rfl rfl (fun x hx => ?_) ?_;rotate_left
 ·have hxb := (hx.block _ (Zc HSW.o.blk)).trans HSW.o.blk; have hxc := (hx.block _ (Zc HCW.o)).trans HCW.o; have b0 := cz4 hxb; have fb0 := fz hxb; have c0 := cz6 hxc; have fc0 := fz hxc; go_simp; first|done|with_reducible rfl
 simp only [Act.put, nA, nB, nC];refine tU 4 31 (v := ?_) rfl rfl (fun x hx => ?_) ?_;rotate_left
 ·go_simp;first|done|with_reducible rfl
 simp only [Act.put, nA, nB, nC];refine tU 5 32 (v := ?_) rfl rfl (fun x hx => ?_) ?_;rotate_left
 ·go_simp;first|done|with_reducible rfl
 simp only [Act.put, nA, nB, nC];refine tU 6 33 (v := ?_) rfl rfl (fun x hx => ?_) ?_;rotate_left
 ·have hxb := (hx.block _ (Zc HSW.o.blk)).trans HSW.o.blk; have hxc := (hx.block _ (Zc HCW.o)).trans HCW.o; have b0 := cz4 hxb; have fb0 := fz hxb; have c0 := cz6 hxc; have fc0 := fz hxc; go_simp; first|done|with_reducible rfl
 simp only [Act.put, nA, nB, nC];refine tU 7 34 (v := ?_) rfl rfl (fun x hx => ?_) ?_;rotate_left
 ·go_simp;first|done|with_reducible rfl|rw[if_neg (by omega)]|rw[if_pos (by omega)]
 simp only [Act.put, nA, nB, nC];refine tU 8 35 (v := ?_) rfl rfl (fun x hx => ?_) ?_;rotate_left
 ·go_simp;first|done|with_reducible rfl
 simp only [Act.put, nA, nB, nC];refine Zag [_] (by kernel_rfl) rfl rfl ?_;simp only [List.getElem_toArray, List.getElem_cons_succ, List.getElem_cons_zero];obtain ⟨b', c', e, h1, h2, hGb, hb, ⟨u, hu⟩, hfr, him⟩ := HSW.o.patchLast (q := 4) (by decide);cases e;have hfu := hfr (L.length * 5 + 4);have hs2 := him ⟨c.kind, c.aB, 0, c.line, c.text⟩ (.string c.text) (fun _ _ => ⟨rfl, HV.o.n0, HV.o.n2, by show Zi 0; unfold Zi; omega, hn3, HV.o.tx⟩);have HSZ := zh hs2;have HGB := zh hGb;clear hs2 him;go_wp2_with fail
 go_end0
 have hfin := HS1.o.trans (SS.of0 HS1.o.lt HGK.o HSZ.o (Tn.set (Tn.later HLW.o) (.inr (.inl HGB.o)) _ _));have hfin2 := ((HS.o.here.later HLb.o).trans hfin).cast (show _ = L ++ (Zk (cg n) c m lp L.length).1 by first | (rw [Zcn HO.o.2]; done) | (rw [Zcn HO.o.2]; done)) (show _ = stL lp ls (ex ++ (Zk (cg n) c m lp L.length).2) by first | (rw [Zcn HO.o.2]; done) | (rw [Zcn HO.o.2]; simp));exact ⟨rfl, _, hfin2⟩
theorem Zmb (n : Nat) (IH : ∀ n', n = n' + 1 → Zci n') (w : World) (MB : Nat) (G : Nat → Prop) (L : List Ze) (lp : Option Zr) (ls : List Zak) (bs : List Int) (ex : List Nat) (F : Nat → Prop) (c : Zd) (A : Option Addr) (k m B : Nat) (HS : Hd (SS w w MB G G L (stL lp ls ex) m (stB lp bs))) (HP : Hd (CxP n w MB G L.length lp (ex.length + ls.length + bs.length) F c A k m B)) (hin : ∀ i, Zm c.kind i lp.isSome = lp.isSome) :
  Calls Tryz.prog 127 #[.pointer (some ⟨MB, 0, none⟩), .slice A c.kids.length k] w fun e w' => e = .returned (.tuple #[]) ∧ ∃ G', SS w w' MB G G' (L ++ (Z4 (cg n) c.kids m lp L.length).1) (stL lp ls (ex ++ (Z4 (cg n) c.kids m lp L.length).2)) m (stB lp bs) := by
 obtain ⟨A', k', ek, hkc, hkm, _⟩ := HP.o.cv.kids;have hks1 : (c.kids.length : Int) ≤ 9223372036854775807 := by unfold maxLen at hkm; cases ek; omega
 clear ek hkc hkm;have HIN := zh hin;clear hin;go_enter Tryz.func127, Tryz.ntmps127;go_wp2_with fail
 go_loopw [4] (fun iv wr => ∃ j : Nat, j ≤ c.kids.length ∧ iv = .int .i64 j ∧ ∃ G', SS w wr MB G G' (L ++ (Z4 (cg n) (c.kids.take j) m lp L.length).1) (stL lp ls (ex ++ (Z4 (cg n) (c.kids.take j) m lp L.length).2)) m (stB lp bs)) (fun iv _ => c.kids.length - (intOf iv).toNat)
 case atStart => exact ⟨0, Nat.zero_le _, rfl, G, by simpa [Z4] using HS.o⟩
 case round =>
  obtain ⟨j, hj, rfl, G1, hs1⟩ := hrel;have HS1 := zh hs1;clear hs1
  by_cases hlt : j < c.kids.length
  ·obtain ⟨n', rfl⟩ := HP.o.cv.lev hlt;have hlt' : (j : Int) < c.kids.length := by omega
   have hct := Zdx c.kids j hlt;have hexl : (Z4 (cg (n' + 1)) (c.kids.take j) m lp L.length).2.length ≤ Zx (c.kids.take j) := Zgk _ _ (fun x hx b => by
    obtain ⟨i, hi, rfl⟩ := List.getElem_of_mem hx;rw [List.length_take] at hi;rw [List.getElem_take];have := HP.o.ok.2.2.2 i (by omega);rw [HIN.o] at this;exact Z1 _ _ _ _ _ this)
   have hll : (Z4 (cg (n' + 1)) (c.kids.take j) m lp L.length).1.length ≤ Zx (c.kids.take j) * B := Zes _ _ (fun x hx b => by
    obtain ⟨i, hi, rfl⟩ := List.getElem_of_mem hx;rw [List.length_take] at hi;rw [List.getElem_take];have := HP.o.ok.2.2.2 i (by omega);rw [HIN.o] at this;have hd := Zdm (c := c) (i := i) (by omega);exact Zgl this HP.o.lm (by have := HP.o.bB; omega))
   have hmu := Zh2 (M := B) hct;have hcc := Zq c;have hlb := HP.o.lb;have hmul : Z0 c * B = Zx c.kids * B + B := by rw [hcc, Nat.add_mul, Nat.one_mul]
   obtain ⟨kb, ko, Bk, q, eA, hca, HE1, hlen⟩ := HP.o.sub (i := j) (m1 := m) (lp1 := lp) (w1 := _) (G1 := G1) (MB1 := MB) (e1 := (ex ++ (Z4 (cg (n' + 1)) (c.kids.take j) m lp L.length).2).length + ls.length + bs.length) (l1 := (L ++ (Z4 (cg (n' + 1)) (c.kids.take j) m lp L.length).1).length) hlt HS1.o.tn.size (HS1.o.keeps HP.o.fr) (HS1.o.off (Za.refl _) HP.o.fr HP.o.flt) (HIN.o j) (by omega) HP.o.lm (by have := HP.o.exb; rw [Za4 hlt]; simp; omega) (by rw [Za4 hlt]; simp; omega);cases eA;have d0 := hca.c0;have d1 := hca.c1;have d2 := hca.c2;have d3 := hca.c3;have d4 := hca.c4;have d5 := hca.c5;clear hca hll hexl hlen hct hmu hcc hlb hmul;go_wp2_with fail;refine (IH n' rfl _ MB G1 _ lp ls bs _ F (c.kid j) Bk q m B (zh HS1.o.here) HE1).mono ?_;rintro e w2 ⟨rfl, G2, hs2⟩;have HS2 := zh (show SS w w2 MB G G2 (L ++ (Z4 (cg (n' + 1)) (c.kids.take (j + 1)) m lp L.length).1) (stL lp ls (ex ++ (Z4 (cg (n' + 1)) (c.kids.take (j + 1)) m lp L.length).2)) m (stB lp bs) from (HS1.o.trans hs2).cast (by rw [List.take_succ_eq_append_getElem hlt, Zc3, Za4 hlt]; simp) (by rw [List.take_succ_eq_append_getElem hlt, Zc3, Za4 hlt]; simp));clear hs2 d0 d1 d2 d3 d4 d5;go_wp2_with fail
   go_roundw
   case rel => exact ⟨j + 1, by omega, by go_num, G2, HS2.o⟩
   case measure => simp [intOf]; omega
  ·obtain rfl : j = c.kids.length := by omega
   have HS2 := zh (HS1.o.cast (show _ = L ++ (Z4 (cg n) c.kids m lp L.length).1 by rw [List.take_length]) (show _ = stL lp ls (ex ++ (Z4 (cg n) c.kids m lp L.length).2) by rw [List.take_length]));go_wp2_with fail
   go_end0
   exact ⟨rfl, G1, HS2.o⟩
theorem Zsk (n : Nat) (IH : ∀ n', n = n' + 1 → Zci n') (w : World) (MB : Nat) (G : Nat → Prop) (L : List Ze) (lp : Option Zr) (ls : List Zak) (bs : List Int) (ex : List Nat) (F : Nat → Prop) (c : Zd) (A : Option Addr) (k m B : Nat) (HS : Hd (SS w w MB G G L (stL lp ls ex) m (stB lp bs))) (HP : Hd (CxP n w MB G L.length lp (ex.length + ls.length + bs.length) F c A k m B)) (ho : c.kind = 11) :
  Calls Tryz.prog 71 #[.pointer (some ⟨MB, 0, none⟩), c.val A k] w (Zb5 n w MB G L lp ls bs ex c m) := by
 have HO := zh ho;unfold Zd.val;have hlwb : Za w (w.alloc (.cells #[.int .i64 c.kind, .int .i64 c.op, .int .i64 c.aB, .int .i64 c.line, .string c.text, .slice A c.kids.length k] 68)) := (Za.refl _).alloc _;obtain ⟨wb, hwb⟩ : ∃ z, w.alloc (.cells #[.int .i64 c.kind, .int .i64 c.op, .int .i64 c.aB, .int .i64 c.line, .string c.text, .slice A c.kids.length k] 68) = z := ⟨_, rfl⟩;rw [hwb] at hlwb;have HB := zh (show wb.heap[w.heap.size]? = some (.cells #[.int .i64 c.kind, .int .i64 c.op, .int .i64 c.aB, .int .i64 c.line, .string c.text, .slice A c.kids.length k] 68 (0, 0)) by rw [← hwb]; exact heap_alloc_new _ _);have hNP : ¬ (w.heap.size = MB ∨ G w.heap.size) := by
  obtain ⟨_, _, _, _, _, _, hs, -⟩ := HS.o.st;rintro (h | h)
  ·have := HS.o.below; omega
  ·have := HS.o.lt _ h; omega
 have HSb := zh ((HS.o.later hlwb).here);have HLb := zh hlwb;have hn3 := HP.o.cv.n3;have hmb := HP.o.mb;have hlb := HP.o.lb;have hbB := HP.o.bB;have hmul : Z0 c * B = Zx c.kids * B + B := by rw [Zq c, Nat.add_mul, Nat.one_mul]
 have tm1 : IntKind.i64.wrap ((m : Int) + 1) = ((m + 1 : Nat) : Int) := by rw [IntWalk.i64_in _ (by omega)]; rfl
 have tm0 : IntKind.i64.wrap (m : Int) = (m : Int) := IntWalk.i64_in _ (by omega);obtain ⟨c0, c1, c2, c3, c4, c5⟩ := cz6 HB.o;have fc0 := fz HB.o;rw [ho] at c0;clear ho;have HV := zh HP.o.cv;have hks1 : (c.kids.length : Int) ≤ 9223372036854775807 := by
  obtain ⟨A', k', ek, hkc, hkm, _⟩ := HP.o.cv.kids;unfold maxLen at hkm;cases ek
  omega
 have hin : ∀ i, Zm c.kind i lp.isSome = lp.isSome := fun i => by rw [HO.o]; simp [Zm]
 have HPB := zh (CxP.move HP.o (Zb.later HLb.o) HLb.o.size (HSb.o.off HLb.o HP.o.fr HP.o.flt));have hll : (Z4 (cg n) c.kids m lp L.length).1.length ≤ Zx c.kids * B := Zes _ _ (fun x hx b => by
  obtain ⟨i, hi, rfl⟩ := List.getElem_of_mem hx;obtain ⟨n', rfl⟩ := HP.o.cv.lev hi;have := HP.o.ok.2.2.2 i hi;rw [hin] at this;have hd := Zdm hi;exact Zgl this HP.o.lm (by omega))
 have HIN := zh hin;clear hin;go_enter Tryz.func71, Tryz.ntmps71;go_wp2_with fail;refine (Zmb n IH wb MB G L lp ls bs ex F c A k m B (zh HSb.o) HPB HIN.o).mono ?_;rintro e w1 ⟨rfl, G1, hs⟩;replace hs := HSb.o.trans hs;clear c0 c1 c2 c3 c4 c5 fc0;obtain ⟨L1, hL⟩ : ∃ z, z = L ++ (Z4 (cg n) c.kids m lp L.length).1 := ⟨_, rfl⟩;rw [← hL] at hs;have HL1 := zh (show L1 = L ++ ((Z4 (cg n) c.kids m lp L.length).1) by rw [hL]; try simp [Zg]);have HN1 := zh (show L1.length = L.length + (Z4 (cg n) c.kids m lp L.length).1.length by rw [hL]; simp; try omega);have HS1 := zh hs;clear hs hL;have HBk := zh (HS1.o.tn.has HB.o hNP);obtain ⟨c0, c1, c2, c3, c4, c5⟩ := cz6 HBk.o;have fc0 := fz HBk.o;clear HBk;go_wp2_with fail;refine (Z8 MB G1 L1 _ _ _ c.kind c.op c.line w1 HS1.o.here HV.o.n0 HV.o.n1 hn3 (by have := HN1.o; omega)).mono ?_;rintro e w2 ⟨rfl, G2, hs⟩;replace hs := HS1.o.trans hs;clear c0 c1 c2 c3 c4 c5 fc0;obtain ⟨L2, hL⟩ : ∃ z, z = L1 ++ [Zg c.kind c.op c.line] := ⟨_, rfl⟩;rw [← hL] at hs;have HL2 := zh (show L2 = L ++ ((Z4 (cg n) c.kids m lp L.length).1 ++ ([Zg c.kind c.op c.line])) by rw [hL, HL1.o]; try simp [Zg]);have HN2 := zh (show L2.length = L.length + (Z4 (cg n) c.kids m lp L.length).1.length + 1 by have := HN1.o; rw [hL]; simp; try omega);have HS2 := zh hs;clear hs hL;have HE2 := zh (show L2 = L1 ++ [Zg c.kind c.op c.line] by rw [HL2.o, HL1.o]; simp);have HBk := zh (HS2.o.tn.has HB.o hNP);obtain ⟨c0, c1, c2, c3, c4, c5⟩ := cz6 HBk.o;have fc0 := fz HBk.o
 clear HBk;obtain ⟨Gc, Gl, Gb, cv, lv, bv, hs, hG⟩ := HS2.o.st;have HGK := zh hG;rw [HE2.o] at hs;have HSK := zh hs;have hbl := hs.blk;obtain ⟨b, cc, e, -⟩ := hs.patchLast (q := 2) (by decide);cases e;clear hs hG;have hi2 : (L1.length : Int) < ((L1.length + 1 : Nat) : Int) := by omega
 have HCB := zh (HS2.o.tn.has HB.o hNP);go_upto_region 8 with (fail);refine Z3 [10] [] (by kernel_rfl) (fun W hW => ?_);have hlW : Za w2 W := by rw [hW]; exact (Za.refl _).drew
 clear hW hbl c0 c1 c2 c3 c4 c5 fc0;have HSW := zh (HSK.o.later hlW);have HCW := zC hlW HCB;have HLW := zh hlW;clear hlW;refine tU 0 51 (v := ?_) rfl rfl (fun x hx => ?_) ?_;rotate_left
 ·go_simp;first|done|with_reducible rfl
 simp only [Act.put, nA, nB, nC];refine tU 1 52 (v := ?_) rfl rfl (fun x hx => ?_) ?_;rotate_left
 ·go_simp;first|done|with_reducible rfl
 simp only [Act.put, nA, nB, nC];refine tU 2 53 (v := ?_) rfl rfl (fun x hx => ?_) ?_;rotate_left
 ·go_simp;first|done|with_reducible rfl
 simp only [Act.put, nA, nB, nC];refine tU 3 54 (v := ?_) rfl rfl (fun x hx => ?_) ?_;rotate_left
 ·have hxb := (hx.block _ (Zc HSW.o.blk)).trans HSW.o.blk; have hxc := (hx.block _ (Zc HCW.o)).trans HCW.o; have b0 := cz4 hxb; have fb0 := fz hxb; obtain ⟨c0, c1, c2, c3, c4, c5⟩ := cz6 hxc; have fc0 := fz hxc; go_simp; first|done|with_reducible rfl
 simp only [Act.put, nA, nB, nC];refine tU 4 55 (v := ?_) rfl rfl (fun x hx => ?_) ?_;rotate_left
 ·go_simp;first|done|with_reducible rfl
 simp only [Act.put, nA, nB, nC];refine tU 5 56 (v := ?_) rfl rfl (fun x hx => ?_) ?_;rotate_left
 ·go_simp;first|done|with_reducible rfl
 simp only [Act.put, nA, nB, nC];refine tU 6 57 (v := ?_) rfl rfl (fun x hx => ?_) ?_;rotate_left
 ·have hxb := (hx.block _ (Zc HSW.o.blk)).trans HSW.o.blk; have hxc := (hx.block _ (Zc HCW.o)).trans HCW.o; have b0 := cz4 hxb; have fb0 := fz hxb; obtain ⟨c0, c1, c2, c3, c4, c5⟩ := cz6 hxc; have fc0 := fz hxc; go_simp; first|done|with_reducible rfl
 simp only [Act.put, nA, nB, nC];refine tU 7 58 (v := ?_) rfl rfl (fun x hx => ?_) ?_;rotate_left
 ·go_simp;first|done|with_reducible rfl
 simp only [Act.put, nA, nB, nC];refine tU 8 59 (v := ?_) rfl rfl (fun x hx => ?_) ?_;rotate_left
 ·go_simp;first|done|with_reducible rfl|rw[if_neg (by omega)]|rw[if_pos (by omega)]
 simp only [Act.put, nA, nB, nC];refine tU 9 60 (v := ?_) rfl rfl (fun x hx => ?_) ?_;rotate_left
 ·go_simp;first|done|with_reducible rfl
 simp only [Act.put, nA, nB, nC];refine Zag [_] (by kernel_rfl) rfl rfl ?_;simp only [List.getElem_toArray, List.getElem_cons_succ, List.getElem_cons_zero];obtain ⟨b', c', e, h1, h2, hGb, hb, ⟨u, hu⟩, hfr, him⟩ := HSW.o.patchLast (q := 2) (by decide);cases e;have hfu := hfr (L1.length * 5 + 2);have hs2 := him ⟨c.kind, c.op, (c.kids.length : Nat), c.line, ⟨#[]⟩⟩ (.int .i64 (c.kids.length : Nat)) (fun _ _ => ⟨rfl, HV.o.n0, HV.o.n1, by show Zi (c.kids.length : Nat); exact ⟨by omega, hks1⟩, hn3, Nat.zero_le _⟩);have HSZ := zh hs2;have HGB := zh hGb;clear hs2 him;go_wp2_with fail
 go_end0
 have hfin := HS2.o.trans (SS.of0 HS2.o.lt HGK.o HSZ.o (Tn.set (Tn.later HLW.o) (.inr (.inl HGB.o)) _ _));have hfin2 := ((HS.o.here.later HLb.o).trans hfin).cast (show _ = L ++ (Zk (cg n) c m lp L.length).1 by first | (rw [Zbc (by have := HO.o; omega)]; done) | (rw [Zbc (by have := HO.o; omega)]; rw [HL1.o]; simp)) (show _ = stL lp ls (ex ++ (Zk (cg n) c m lp L.length).2) by first | (rw [Zbc (by have := HO.o; omega)]; done) | (rw [Zbc (by have := HO.o; omega)]; done));exact ⟨rfl, _, hfin2⟩
theorem Zsl (n : Nat) (IH : ∀ n', n = n' + 1 → Zci n') (w : World) (MB : Nat) (G : Nat → Prop) (L : List Ze) (lp : Option Zr) (ls : List Zak) (bs : List Int) (ex : List Nat) (F : Nat → Prop) (c : Zd) (A : Option Addr) (k m B : Nat) (HS : Hd (SS w w MB G G L (stL lp ls ex) m (stB lp bs))) (HP : Hd (CxP n w MB G L.length lp (ex.length + ls.length + bs.length) F c A k m B)) (ho : c.kind = 12) :
  Calls Tryz.prog 71 #[.pointer (some ⟨MB, 0, none⟩), c.val A k] w (Zb5 n w MB G L lp ls bs ex c m) := by
 have HO := zh ho;unfold Zd.val;have hlwb : Za w (w.alloc (.cells #[.int .i64 c.kind, .int .i64 c.op, .int .i64 c.aB, .int .i64 c.line, .string c.text, .slice A c.kids.length k] 68)) := (Za.refl _).alloc _;obtain ⟨wb, hwb⟩ : ∃ z, w.alloc (.cells #[.int .i64 c.kind, .int .i64 c.op, .int .i64 c.aB, .int .i64 c.line, .string c.text, .slice A c.kids.length k] 68) = z := ⟨_, rfl⟩;rw [hwb] at hlwb;have HB := zh (show wb.heap[w.heap.size]? = some (.cells #[.int .i64 c.kind, .int .i64 c.op, .int .i64 c.aB, .int .i64 c.line, .string c.text, .slice A c.kids.length k] 68 (0, 0)) by rw [← hwb]; exact heap_alloc_new _ _);have hNP : ¬ (w.heap.size = MB ∨ G w.heap.size) := by
  obtain ⟨_, _, _, _, _, _, hs, -⟩ := HS.o.st;rintro (h | h)
  ·have := HS.o.below; omega
  ·have := HS.o.lt _ h; omega
 have HSb := zh ((HS.o.later hlwb).here);have HLb := zh hlwb;have hn3 := HP.o.cv.n3;have hmb := HP.o.mb;have hlb := HP.o.lb;have hbB := HP.o.bB;have hmul : Z0 c * B = Zx c.kids * B + B := by rw [Zq c, Nat.add_mul, Nat.one_mul]
 have tm1 : IntKind.i64.wrap ((m : Int) + 1) = ((m + 1 : Nat) : Int) := by rw [IntWalk.i64_in _ (by omega)]; rfl
 have tm0 : IntKind.i64.wrap (m : Int) = (m : Int) := IntWalk.i64_in _ (by omega);obtain ⟨c0, c1, c2, c3, c4, c5⟩ := cz6 HB.o;have fc0 := fz HB.o;rw [ho] at c0;clear ho;have HV := zh HP.o.cv;have hks1 : (c.kids.length : Int) ≤ 9223372036854775807 := by
  obtain ⟨A', k', ek, hkc, hkm, _⟩ := HP.o.cv.kids;unfold maxLen at hkm;cases ek
  omega
 have hin : ∀ i, Zm c.kind i lp.isSome = lp.isSome := fun i => by rw [HO.o]; simp [Zm]
 have HPB := zh (CxP.move HP.o (Zb.later HLb.o) HLb.o.size (HSb.o.off HLb.o HP.o.fr HP.o.flt));have hll : (Z4 (cg n) c.kids m lp L.length).1.length ≤ Zx c.kids * B := Zes _ _ (fun x hx b => by
  obtain ⟨i, hi, rfl⟩ := List.getElem_of_mem hx;obtain ⟨n', rfl⟩ := HP.o.cv.lev hi;have := HP.o.ok.2.2.2 i hi;rw [hin] at this;have hd := Zdm hi;exact Zgl this HP.o.lm (by omega))
 have HIN := zh hin;clear hin;go_enter Tryz.func71, Tryz.ntmps71;go_wp2_with fail;refine (Zmb n IH wb MB G L lp ls bs ex F c A k m B (zh HSb.o) HPB HIN.o).mono ?_;rintro e w1 ⟨rfl, G1, hs⟩;replace hs := HSb.o.trans hs;clear c0 c1 c2 c3 c4 c5 fc0;obtain ⟨L1, hL⟩ : ∃ z, z = L ++ (Z4 (cg n) c.kids m lp L.length).1 := ⟨_, rfl⟩;rw [← hL] at hs;have HL1 := zh (show L1 = L ++ ((Z4 (cg n) c.kids m lp L.length).1) by rw [hL]; try simp [Zg]);have HN1 := zh (show L1.length = L.length + (Z4 (cg n) c.kids m lp L.length).1.length by rw [hL]; simp; try omega);have HS1 := zh hs;clear hs hL;have HBk := zh (HS1.o.tn.has HB.o hNP);obtain ⟨c0, c1, c2, c3, c4, c5⟩ := cz6 HBk.o;have fc0 := fz HBk.o;clear HBk;go_wp2_with fail;refine (Z8 MB G1 L1 _ _ _ c.kind c.op c.line w1 HS1.o.here HV.o.n0 HV.o.n1 hn3 (by have := HN1.o; omega)).mono ?_;rintro e w2 ⟨rfl, G2, hs⟩;replace hs := HS1.o.trans hs;clear c0 c1 c2 c3 c4 c5 fc0;obtain ⟨L2, hL⟩ : ∃ z, z = L1 ++ [Zg c.kind c.op c.line] := ⟨_, rfl⟩;rw [← hL] at hs;have HL2 := zh (show L2 = L ++ ((Z4 (cg n) c.kids m lp L.length).1 ++ ([Zg c.kind c.op c.line])) by rw [hL, HL1.o]; try simp [Zg]);have HN2 := zh (show L2.length = L.length + (Z4 (cg n) c.kids m lp L.length).1.length + 1 by have := HN1.o; rw [hL]; simp; try omega);have HS2 := zh hs;clear hs hL;have HE2 := zh (show L2 = L1 ++ [Zg c.kind c.op c.line] by rw [HL2.o, HL1.o]; simp);have HBk := zh (HS2.o.tn.has HB.o hNP);obtain ⟨c0, c1, c2, c3, c4, c5⟩ := cz6 HBk.o;have fc0 := fz HBk.o
 clear HBk;obtain ⟨Gc, Gl, Gb, cv, lv, bv, hs, hG⟩ := HS2.o.st;have HGK := zh hG;rw [HE2.o] at hs;have HSK := zh hs;have hbl := hs.blk;obtain ⟨b, cc, e, -⟩ := hs.patchLast (q := 2) (by decide);cases e;clear hs hG;have hi2 : (L1.length : Int) < ((L1.length + 1 : Nat) : Int) := by omega
 have HCB := zh (HS2.o.tn.has HB.o hNP);go_upto_region 8 with (fail);refine Z3 [10] [] (by kernel_rfl) (fun W hW => ?_);have hlW : Za w2 W := by rw [hW]; exact (Za.refl _).drew
 clear hW hbl c0 c1 c2 c3 c4 c5 fc0;have HSW := zh (HSK.o.later hlW);have HCW := zC hlW HCB;have HLW := zh hlW;clear hlW;refine tU 0 51 (v := ?_) rfl rfl (fun x hx => ?_) ?_;rotate_left
 ·go_simp;first|done|with_reducible rfl
 simp only [Act.put, nA, nB, nC];refine tU 1 52 (v := ?_) rfl rfl (fun x hx => ?_) ?_;rotate_left
 ·go_simp;first|done|with_reducible rfl
 simp only [Act.put, nA, nB, nC];refine tU 2 53 (v := ?_) rfl rfl (fun x hx => ?_) ?_;rotate_left
 ·go_simp;first|done|with_reducible rfl
 simp only [Act.put, nA, nB, nC];refine tU 3 54 (v := ?_) rfl rfl (fun x hx => ?_) ?_;rotate_left
 ·have hxb := (hx.block _ (Zc HSW.o.blk)).trans HSW.o.blk; have hxc := (hx.block _ (Zc HCW.o)).trans HCW.o; have b0 := cz4 hxb; have fb0 := fz hxb; obtain ⟨c0, c1, c2, c3, c4, c5⟩ := cz6 hxc; have fc0 := fz hxc; go_simp; first|done|with_reducible rfl
 simp only [Act.put, nA, nB, nC];refine tU 4 55 (v := ?_) rfl rfl (fun x hx => ?_) ?_;rotate_left
 ·go_simp;first|done|with_reducible rfl
 simp only [Act.put, nA, nB, nC];refine tU 5 56 (v := ?_) rfl rfl (fun x hx => ?_) ?_;rotate_left
 ·go_simp;first|done|with_reducible rfl
 simp only [Act.put, nA, nB, nC];refine tU 6 57 (v := ?_) rfl rfl (fun x hx => ?_) ?_;rotate_left
 ·have hxb := (hx.block _ (Zc HSW.o.blk)).trans HSW.o.blk; have hxc := (hx.block _ (Zc HCW.o)).trans HCW.o; have b0 := cz4 hxb; have fb0 := fz hxb; obtain ⟨c0, c1, c2, c3, c4, c5⟩ := cz6 hxc; have fc0 := fz hxc; go_simp; first|done|with_reducible rfl
 simp only [Act.put, nA, nB, nC];refine tU 7 58 (v := ?_) rfl rfl (fun x hx => ?_) ?_;rotate_left
 ·go_simp;first|done|with_reducible rfl
 simp only [Act.put, nA, nB, nC];refine tU 8 59 (v := ?_) rfl rfl (fun x hx => ?_) ?_;rotate_left
 ·go_simp;first|done|with_reducible rfl|rw[if_neg (by omega)]|rw[if_pos (by omega)]
 simp only [Act.put, nA, nB, nC];refine tU 9 60 (v := ?_) rfl rfl (fun x hx => ?_) ?_;rotate_left
 ·go_simp;first|done|with_reducible rfl
 simp only [Act.put, nA, nB, nC];refine Zag [_] (by kernel_rfl) rfl rfl ?_;simp only [List.getElem_toArray, List.getElem_cons_succ, List.getElem_cons_zero];obtain ⟨b', c', e, h1, h2, hGb, hb, ⟨u, hu⟩, hfr, him⟩ := HSW.o.patchLast (q := 2) (by decide);cases e;have hfu := hfr (L1.length * 5 + 2);have hs2 := him ⟨c.kind, c.op, (c.kids.length : Nat), c.line, ⟨#[]⟩⟩ (.int .i64 (c.kids.length : Nat)) (fun _ _ => ⟨rfl, HV.o.n0, HV.o.n1, by show Zi (c.kids.length : Nat); exact ⟨by omega, hks1⟩, hn3, Nat.zero_le _⟩);have HSZ := zh hs2;have HGB := zh hGb;clear hs2 him;go_wp2_with fail
 go_end0
 have hfin := HS2.o.trans (SS.of0 HS2.o.lt HGK.o HSZ.o (Tn.set (Tn.later HLW.o) (.inr (.inl HGB.o)) _ _));have hfin2 := ((HS.o.here.later HLb.o).trans hfin).cast (show _ = L ++ (Zk (cg n) c m lp L.length).1 by first | (rw [Zbc (by have := HO.o; omega)]; done) | (rw [Zbc (by have := HO.o; omega)]; rw [HL1.o]; simp)) (show _ = stL lp ls (ex ++ (Zk (cg n) c m lp L.length).2) by first | (rw [Zbc (by have := HO.o; omega)]; done) | (rw [Zbc (by have := HO.o; omega)]; done));exact ⟨rfl, _, hfin2⟩
theorem Zsm (n : Nat) (IH : ∀ n', n = n' + 1 → Zci n') (w : World) (MB : Nat) (G : Nat → Prop) (L : List Ze) (lp : Option Zr) (ls : List Zak) (bs : List Int) (ex : List Nat) (F : Nat → Prop) (c : Zd) (A : Option Addr) (k m B : Nat) (HS : Hd (SS w w MB G G L (stL lp ls ex) m (stB lp bs))) (HP : Hd (CxP n w MB G L.length lp (ex.length + ls.length + bs.length) F c A k m B)) (ho : c.kind = 13) :
  Calls Tryz.prog 71 #[.pointer (some ⟨MB, 0, none⟩), c.val A k] w (Zb5 n w MB G L lp ls bs ex c m) := by
 have HO := zh ho;unfold Zd.val;have hlwb : Za w (w.alloc (.cells #[.int .i64 c.kind, .int .i64 c.op, .int .i64 c.aB, .int .i64 c.line, .string c.text, .slice A c.kids.length k] 68)) := (Za.refl _).alloc _;obtain ⟨wb, hwb⟩ : ∃ z, w.alloc (.cells #[.int .i64 c.kind, .int .i64 c.op, .int .i64 c.aB, .int .i64 c.line, .string c.text, .slice A c.kids.length k] 68) = z := ⟨_, rfl⟩;rw [hwb] at hlwb;have HB := zh (show wb.heap[w.heap.size]? = some (.cells #[.int .i64 c.kind, .int .i64 c.op, .int .i64 c.aB, .int .i64 c.line, .string c.text, .slice A c.kids.length k] 68 (0, 0)) by rw [← hwb]; exact heap_alloc_new _ _);have hNP : ¬ (w.heap.size = MB ∨ G w.heap.size) := by
  obtain ⟨_, _, _, _, _, _, hs, -⟩ := HS.o.st;rintro (h | h)
  ·have := HS.o.below; omega
  ·have := HS.o.lt _ h; omega
 have HSb := zh ((HS.o.later hlwb).here);have HLb := zh hlwb;have hn3 := HP.o.cv.n3;have hmb := HP.o.mb;have hlb := HP.o.lb;have hbB := HP.o.bB;have hmul : Z0 c * B = Zx c.kids * B + B := by rw [Zq c, Nat.add_mul, Nat.one_mul]
 have tm1 : IntKind.i64.wrap ((m : Int) + 1) = ((m + 1 : Nat) : Int) := by rw [IntWalk.i64_in _ (by omega)]; rfl
 have tm0 : IntKind.i64.wrap (m : Int) = (m : Int) := IntWalk.i64_in _ (by omega);have hkn : 2 ≤ c.kids.length := by have := HP.o.ok.2.1; rw [ho] at this; exact this
 obtain ⟨n', rfl⟩ := HP.o.cv.lev (i := 0) (by omega);obtain ⟨n, rfl⟩ : ∃ z, z = n' := ⟨_, rfl⟩;obtain ⟨kb, ko, B0, q0, rfl, -⟩ := CAt.kid HP.o.cv.kids (i := 0) (by omega);have hkn2 : (2 : Int) ≤ (c.kids.length : Int) := by omega
 have hcnt := Ze3 (c := c) hkn;have hmu := Zh2 (M := B) hcnt;obtain ⟨c0, c1, c2, c3, c4, c5⟩ := cz6 HB.o;have fc0 := fz HB.o;rw [ho] at c0;clear ho;go_enter Tryz.func71, Tryz.ntmps71;go_wp2_with fail;refine (Z8 MB G L _ _ _ 17 0 c.line wb HSb.o.here (by unfold Zi; omega) (by unfold Zi; omega) hn3 (by omega)).mono ?_;rintro e w1 ⟨rfl, G1, hs⟩;replace hs := HSb.o.trans hs;clear c0 c1 c2 c3 c4 c5 fc0;obtain ⟨L1, hL⟩ : ∃ z, z = L ++ [Zg 17 0 c.line] := ⟨_, rfl⟩;rw [← hL] at hs;have HL1 := zh (show L1 = L ++ ([Zg 17 0 c.line]) by rw [hL]; try simp [Zg]);have HN1 := zh (show L1.length = L.length + 1 by rw [hL]; simp; try omega);have HS1 := zh hs;clear hs hL;have HBk := zh (HS1.o.tn.has HB.o hNP);obtain ⟨c0, c1, c2, c3, c4, c5⟩ := cz6 HBk.o;have fc0 := fz HBk.o;clear HBk;obtain ⟨kb2, ko2, Bk2, q2, eA, hca, HE2, hlen2⟩ := HP.o.sub (i := 0) (m1 := m) (lp1 := lp) (w1 := w1) (MB1 := MB) (G1 := G1) (e1 := ex.length + (ls).length + (bs).length) (l1 := L1.length) (by omega) (Nat.le_trans HLb.o.size HS1.o.tn.size) (HS1.o.keeps' HLb.o HP.o.fr) (HS1.o.off HLb.o HP.o.fr HP.o.flt) (by rw [HO.o]; simp [Zm]) (by omega) (fun x hx => Nat.le_trans (HP.o.lm x hx) (by omega)) (by have := HP.o.exb; have := Zq c; simp; omega) (by have := HN1.o; omega);cases eA;have d0 := hca.c0;have d1 := hca.c1;have d2 := hca.c2;have d3 := hca.c3;have d4 := hca.c4;have d5 := hca.c5;simp only [Nat.zero_mul, Nat.add_zero, Nat.reduceMul, Nat.add_assoc, Nat.reduceAdd] at d0 d1 d2 d3 d4 d5;clear hca
 go_wp2_with fail;refine (IH _ rfl w1 MB G1 L1 lp ls bs ex F (c.kid 0) Bk2 q2 (m) B (zh HS1.o.here) HE2).mono ?_;rintro e w2 ⟨rfl, G2, hs⟩;replace hs := HS1.o.trans hs;rw [HN1.o] at hs;have hq2 := hlen2 (L.length + 1);clear hlen2 d0 d1 d2 d3 d4 d5;obtain ⟨r2, hr⟩ : ∃ z, z = cg (n + 1) (c.kid 0) (m) (lp) (L.length + 1) := ⟨_, rfl⟩;rw [← hr] at hs hq2;have HR2 := zh hr;have hxl2 : r2.2.length ≤ Z0 (c.kid 0) := by rw [hr]; exact Z1 _ _ _ _ _ HE2.o.ok
 clear hr;clear c0 c1 c2 c3 c4 c5 fc0;obtain ⟨x2, hx⟩ : ∃ z, z = ex ++ r2.2 := ⟨_, rfl⟩;rw [← hx] at hs;have HX2 := zh (show x2 = ex ++ (r2.2) by rw [hx]; try simp);have hxx2 : x2.length = ex.length + r2.2.length := by rw [hx]; simp
 clear hx;obtain ⟨L2, hL⟩ : ∃ z, z = L1 ++ r2.1 := ⟨_, rfl⟩;rw [← hL] at hs;have HL2 := zh (show L2 = L ++ ([Zg 17 0 c.line] ++ (r2.1)) by rw [hL, HL1.o]; try simp [Zg]);have HN2 := zh (show L2.length = L.length + 1 + r2.1.length by have := HN1.o; rw [hL]; simp; try omega);have HS2 := zh hs;clear hs hL;have HBk := zh (HS2.o.tn.has HB.o hNP);obtain ⟨c0, c1, c2, c3, c4, c5⟩ := cz6 HBk.o;have fc0 := fz HBk.o;clear HBk;go_wp2_with fail;refine (Z8 MB G2 L2 _ _ _ 15 0 c.line w2 HS2.o.here (by unfold Zi; omega) (by unfold Zi; omega) hn3 (by have := HN2.o; omega)).mono ?_;rintro e w3 ⟨rfl, G3, hs⟩;replace hs := HS2.o.trans hs;clear c0 c1 c2 c3 c4 c5 fc0;obtain ⟨L3, hL⟩ : ∃ z, z = L2 ++ [Zg 15 0 c.line] := ⟨_, rfl⟩;rw [← hL] at hs;have HL3 := zh (show L3 = L ++ ([Zg 17 0 c.line] ++ (r2.1 ++ ([Zg 15 0 c.line]))) by rw [hL, HL2.o]; try simp [Zg]);have HN3 := zh (show L3.length = L.length + 1 + r2.1.length + 1 by have := HN2.o; rw [hL]; simp; try omega);have HS3 := zh hs;clear hs hL;have HBk := zh (HS3.o.tn.has HB.o hNP);obtain ⟨c0, c1, c2, c3, c4, c5⟩ := cz6 HBk.o;have fc0 := fz HBk.o;clear HBk;go_wp2_with fail;refine (Zb9 MB G3 L3 _ _ _ L.length w3 HS3.o.here (by have := HN1.o; have := HN2.o; have := HN3.o; omega) (by have := HN3.o; omega)).mono ?_;rintro e w4 ⟨rfl, hs⟩;replace hs := HS3.o.trans hs;clear c0 c1 c2 c3 c4 c5 fc0;have hpt := Zav (LL := L3) (A := L) (B := r2.1 ++ ([Zg 15 0 c.line])) (op := 17) (a0 := 0) (l := c.line) (i := L.length) (k := L.length + 1 + r2.1.length + 1) (by rw [HL3.o]; simp) (by have := HN1.o; have := HN2.o; have := HN3.o; simp; try omega) HN3.o
 rw [hpt] at hs;obtain ⟨L4, hL⟩ : ∃ z, z = L ++ Zg 17 ((L.length + 1 + r2.1.length + 1 : Nat) : Int) c.line :: (r2.1 ++ ([Zg 15 0 c.line])) := ⟨_, rfl⟩;rw [← hL] at hs;have HL4 := zh (show L4 = L ++ ([Zg 17 ((L.length + 1 + r2.1.length + 1 : Nat) : Int) c.line] ++ (r2.1 ++ ([Zg 15 0 c.line]))) by rw [hL]; simp);have HN4 := zh (show L4.length = L.length + 1 + r2.1.length + 1 by rw [hL, ← hpt, Zp, HN3.o]);have HS4 := zh hs;clear hs hL hpt;have HBk := zh (HS4.o.tn.has HB.o hNP);obtain ⟨c0, c1, c2, c3, c4, c5⟩ := cz6 HBk.o;have fc0 := fz HBk.o;clear HBk;obtain ⟨kb5, ko5, Bk5, q5, eA, hca, HE5, hlen5⟩ := HP.o.sub (i := 1) (m1 := m) (lp1 := lp) (w1 := w4) (MB1 := MB) (G1 := G3) (e1 := x2.length + (ls).length + (bs).length) (l1 := L4.length) (by omega) (Nat.le_trans HLb.o.size HS4.o.tn.size) (HS4.o.keeps' HLb.o HP.o.fr) (HS4.o.off HLb.o HP.o.fr HP.o.flt) (by rw [HO.o]; simp [Zm]) (by omega) (fun x hx => Nat.le_trans (HP.o.lm x hx) (by omega)) (by have := HP.o.exb; have := Zq c; have := hxx2; have := hxl2; simp; omega) (by have := HN4.o; omega);cases eA;have d0 := hca.c0;have d1 := hca.c1;have d2 := hca.c2;have d3 := hca.c3;have d4 := hca.c4;have d5 := hca.c5;simp only [Nat.zero_mul, Nat.add_zero, Nat.reduceMul, Nat.add_assoc, Nat.reduceAdd] at d0 d1 d2 d3 d4 d5;clear hca;go_wp2_with fail;refine (IH _ rfl w4 MB G3 L4 lp ls bs x2 F (c.kid 1) Bk5 q5 (m) B (zh HS4.o.here) HE5).mono ?_;rintro e w5 ⟨rfl, G5, hs⟩;replace hs := HS4.o.trans hs;rw [HN4.o] at hs;have hq5 := hlen5 (L.length + 1 + r2.1.length + 1)
 clear hlen5 d0 d1 d2 d3 d4 d5;obtain ⟨r5, hr⟩ : ∃ z, z = cg (n + 1) (c.kid 1) (m) (lp) (L.length + 1 + r2.1.length + 1) := ⟨_, rfl⟩;rw [← hr] at hs hq5;have HR5 := zh hr;have hxl5 : r5.2.length ≤ Z0 (c.kid 1) := by rw [hr]; exact Z1 _ _ _ _ _ HE5.o.ok
 clear hr;clear c0 c1 c2 c3 c4 c5 fc0;obtain ⟨x5, hx⟩ : ∃ z, z = x2 ++ r5.2 := ⟨_, rfl⟩;rw [← hx] at hs;have HX5 := zh (show x5 = ex ++ (r2.2 ++ (r5.2)) by rw [hx, HX2.o]; try simp);have hxx5 : x5.length = x2.length + r5.2.length := by rw [hx]; simp
 clear hx;obtain ⟨L5, hL⟩ : ∃ z, z = L4 ++ r5.1 := ⟨_, rfl⟩;rw [← hL] at hs;have HL5 := zh (show L5 = L ++ ([Zg 17 ((L.length + 1 + r2.1.length + 1 : Nat) : Int) c.line] ++ (r2.1 ++ ([Zg 15 0 c.line] ++ (r5.1)))) by rw [hL, HL4.o]; try simp [Zg]);have HN5 := zh (show L5.length = L.length + 1 + r2.1.length + 1 + r5.1.length by have := HN4.o; rw [hL]; simp; try omega);have HS5 := zh hs;clear hs hL;have HBk := zh (HS5.o.tn.has HB.o hNP);obtain ⟨c0, c1, c2, c3, c4, c5⟩ := cz6 HBk.o;have fc0 := fz HBk.o;clear HBk;go_wp2_with fail;refine (Zb9 MB G5 L5 _ _ _ L2.length w5 HS5.o.here (by have := HN1.o; have := HN2.o; have := HN3.o; have := HN4.o; have := HN5.o; omega) (by have := HN5.o; omega)).mono ?_;rintro e w6 ⟨rfl, hs⟩;replace hs := HS5.o.trans hs;clear c0 c1 c2 c3 c4 c5 fc0;have hpt := Zav (LL := L5) (A := L ++ ([Zg 17 ((L.length + 1 + r2.1.length + 1 : Nat) : Int) c.line] ++ (r2.1))) (B := r5.1) (op := 15) (a0 := 0) (l := c.line) (i := L2.length) (k := L.length + 1 + r2.1.length + 1 + r5.1.length) (by rw [HL5.o]; simp) (by have := HN1.o; have := HN2.o; have := HN3.o; have := HN4.o; have := HN5.o; simp; try omega) HN5.o;rw [hpt] at hs;obtain ⟨L6, hL⟩ : ∃ z, z = L ++ ([Zg 17 ((L.length + 1 + r2.1.length + 1 : Nat) : Int) c.line] ++ (r2.1)) ++ Zg 15 ((L.length + 1 + r2.1.length + 1 + r5.1.length : Nat) : Int) c.line :: (r5.1) := ⟨_, rfl⟩;rw [← hL] at hs;have HL6 := zh (show L6 = L ++ ([Zg 17 ((L.length + 1 + r2.1.length + 1 : Nat) : Int) c.line] ++ (r2.1 ++ ([Zg 15 ((L.length + 1 + r2.1.length + 1 + r5.1.length : Nat) : Int) c.line] ++ (r5.1)))) by rw [hL]; simp)
 have HN6 := zh (show L6.length = L.length + 1 + r2.1.length + 1 + r5.1.length by rw [hL, ← hpt, Zp, HN5.o]);have HS6 := zh hs;clear hs hL hpt;have HBk := zh (HS6.o.tn.has HB.o hNP);obtain ⟨c0, c1, c2, c3, c4, c5⟩ := cz6 HBk.o;have fc0 := fz HBk.o;clear HBk;go_wp2_with fail
 go_end0
 refine ⟨rfl, G5, ?_⟩;show SS w w6 MB G G5 (L ++ (Zk (cg (n + 1)) c m lp L.length).1) (stL lp ls (ex ++ (Zk (cg (n + 1)) c m lp L.length).2)) m (stB lp bs);rw [Zfk HO.o];simp only [← HR2.o, ← HR5.o];refine ((HS.o.here.later HLb.o).trans HS6.o).cast ?_ ?_
 ·rw [HL6.o]; try simp
 ·rw [HX5.o]; try simp
theorem Zsn (n : Nat) (IH : ∀ n', n = n' + 1 → Zci n') (w : World) (MB : Nat) (G : Nat → Prop) (L : List Ze) (lp : Option Zr) (ls : List Zak) (bs : List Int) (ex : List Nat) (F : Nat → Prop) (c : Zd) (A : Option Addr) (k m B : Nat) (HS : Hd (SS w w MB G G L (stL lp ls ex) m (stB lp bs))) (HP : Hd (CxP n w MB G L.length lp (ex.length + ls.length + bs.length) F c A k m B)) (ho : c.kind = 14) :
  Calls Tryz.prog 71 #[.pointer (some ⟨MB, 0, none⟩), c.val A k] w (Zb5 n w MB G L lp ls bs ex c m) := by
 have HO := zh ho;unfold Zd.val;have hlwb : Za w (w.alloc (.cells #[.int .i64 c.kind, .int .i64 c.op, .int .i64 c.aB, .int .i64 c.line, .string c.text, .slice A c.kids.length k] 68)) := (Za.refl _).alloc _;obtain ⟨wb, hwb⟩ : ∃ z, w.alloc (.cells #[.int .i64 c.kind, .int .i64 c.op, .int .i64 c.aB, .int .i64 c.line, .string c.text, .slice A c.kids.length k] 68) = z := ⟨_, rfl⟩;rw [hwb] at hlwb;have HB := zh (show wb.heap[w.heap.size]? = some (.cells #[.int .i64 c.kind, .int .i64 c.op, .int .i64 c.aB, .int .i64 c.line, .string c.text, .slice A c.kids.length k] 68 (0, 0)) by rw [← hwb]; exact heap_alloc_new _ _);have hNP : ¬ (w.heap.size = MB ∨ G w.heap.size) := by
  obtain ⟨_, _, _, _, _, _, hs, -⟩ := HS.o.st;rintro (h | h)
  ·have := HS.o.below; omega
  ·have := HS.o.lt _ h; omega
 have HSb := zh ((HS.o.later hlwb).here);have HLb := zh hlwb;have hn3 := HP.o.cv.n3;have hmb := HP.o.mb;have hlb := HP.o.lb;have hbB := HP.o.bB;have hmul : Z0 c * B = Zx c.kids * B + B := by rw [Zq c, Nat.add_mul, Nat.one_mul]
 have tm1 : IntKind.i64.wrap ((m : Int) + 1) = ((m + 1 : Nat) : Int) := by rw [IntWalk.i64_in _ (by omega)]; rfl
 have tm0 : IntKind.i64.wrap (m : Int) = (m : Int) := IntWalk.i64_in _ (by omega);have hkn : 1 ≤ c.kids.length := by have := HP.o.ok.2.1; rw [ho] at this; exact this
 obtain ⟨n', rfl⟩ := HP.o.cv.lev (i := 0) (by omega);obtain ⟨n, rfl⟩ : ∃ z, z = n' := ⟨_, rfl⟩;obtain ⟨kb, ko, B0, q0, rfl, -⟩ := CAt.kid HP.o.cv.kids (i := 0) (by omega);have hkn2 : (1 : Int) ≤ (c.kids.length : Int) := by omega
 have hcnt := Zfw (c := c) hkn;have hmu := Zj8 (M := B) hcnt;obtain ⟨c0, c1, c2, c3, c4, c5⟩ := cz6 HB.o;have fc0 := fz HB.o;rw [ho] at c0;clear ho;go_enter Tryz.func71, Tryz.ntmps71;go_wp2_with fail;refine (Z8 MB G L _ _ _ 18 0 c.line wb HSb.o.here (by unfold Zi; omega) (by unfold Zi; omega) hn3 (by omega)).mono ?_;rintro e w1 ⟨rfl, G1, hs⟩;replace hs := HSb.o.trans hs;clear c0 c1 c2 c3 c4 c5 fc0;obtain ⟨L1, hL⟩ : ∃ z, z = L ++ [Zg 18 0 c.line] := ⟨_, rfl⟩;rw [← hL] at hs;have HL1 := zh (show L1 = L ++ ([Zg 18 0 c.line]) by rw [hL]; try simp [Zg]);have HN1 := zh (show L1.length = L.length + 1 by rw [hL]; simp; try omega);have HS1 := zh hs;clear hs hL;have HBk := zh (HS1.o.tn.has HB.o hNP);obtain ⟨c0, c1, c2, c3, c4, c5⟩ := cz6 HBk.o;have fc0 := fz HBk.o;clear HBk;go_wp2_with fail;refine (Z8 MB G1 L1 _ _ _ 13 (-1) c.line w1 HS1.o.here (by unfold Zi; omega) (by unfold Zi; omega) hn3 (by have := HN1.o; omega)).mono ?_;rintro e w2 ⟨rfl, G2, hs⟩;replace hs := HS1.o.trans hs;clear c0 c1 c2 c3 c4 c5 fc0;obtain ⟨L2, hL⟩ : ∃ z, z = L1 ++ [Zg 13 (-1) c.line] := ⟨_, rfl⟩;rw [← hL] at hs;have HL2 := zh (show L2 = L ++ ([Zg 18 0 c.line] ++ ([Zg 13 (-1) c.line])) by rw [hL, HL1.o]; try simp [Zg]);have HN2 := zh (show L2.length = L.length + 1 + 1 by have := HN1.o; rw [hL]; simp; try omega);have HS2 := zh hs;clear hs hL;obtain ⟨Gc, Gl, Gb, cv, lv, bv, hs, hG⟩ := HS2.o.st;have HSK := zh hs;have HGK := zh hG;have b0 := cz4 hs.blk;have fb0 := fz hs.blk
 clear hs hG;obtain ⟨w3, hwn⟩ : ∃ z, w2.setCell ⟨MB, 2, none⟩ (.int .i64 ((m : Int) + 1)) = z := ⟨_, rfl⟩;have hsn := SS.of0 (x := w3) HS2.o.lt HGK.o (by rw [← hwn]; exact HSK.o.setM (m + 1)) (by rw [← hwn]; exact Tn.set (Tn.refl _ _) (.inl rfl) _ _);have HS3 := zh (HS2.o.trans hsn);clear hsn
 have HBk := zh (HS3.o.tn.has HB.o hNP);obtain ⟨c0, c1, c2, c3, c4, c5⟩ := cz6 HBk.o;have fc0 := fz HBk.o;clear HBk;obtain ⟨kb4, ko4, Bk4, q4, eA, hca, HE4, hlen4⟩ := HP.o.sub (i := 0) (m1 := m + 1) (lp1 := lp) (w1 := w3) (MB1 := MB) (G1 := G2) (e1 := ex.length + (ls).length + (bs).length) (l1 := L2.length) (by omega) (Nat.le_trans HLb.o.size HS3.o.tn.size) (HS3.o.keeps' HLb.o HP.o.fr) (HS3.o.off HLb.o HP.o.fr HP.o.flt) (by rw [HO.o]; simp [Zm]) (by omega) (fun x hx => Nat.le_trans (HP.o.lm x hx) (by omega)) (by have := HP.o.exb; have := Zq c; simp; omega) (by have := HN2.o; omega);cases eA;have d0 := hca.c0;have d1 := hca.c1;have d2 := hca.c2;have d3 := hca.c3;have d4 := hca.c4;have d5 := hca.c5;simp only [Nat.zero_mul, Nat.add_zero, Nat.reduceMul, Nat.add_assoc, Nat.reduceAdd] at d0 d1 d2 d3 d4 d5;clear hca;go_wp2_with fail;refine (IH _ rfl w3 MB G2 L2 lp ls bs ex F (c.kid 0) Bk4 q4 (m + 1) B (zh HS3.o.here) HE4).mono ?_;rintro e w4 ⟨rfl, G4, hs⟩;replace hs := HS3.o.trans hs;rw [HN2.o] at hs;have hq4 := hlen4 (L.length + 1 + 1);clear hlen4 d0 d1 d2 d3 d4 d5;obtain ⟨r4, hr⟩ : ∃ z, z = cg (n + 1) (c.kid 0) (m + 1) (lp) (L.length + 1 + 1) := ⟨_, rfl⟩;rw [← hr] at hs hq4;have HR4 := zh hr;have hxl4 : r4.2.length ≤ Z0 (c.kid 0) := by rw [hr]; exact Z1 _ _ _ _ _ HE4.o.ok
 clear hr;clear c0 c1 c2 c3 c4 c5 fc0;clear b0 fb0 hwn HSK HGK;obtain ⟨x4, hx⟩ : ∃ z, z = ex ++ r4.2 := ⟨_, rfl⟩;rw [← hx] at hs;have HX4 := zh (show x4 = ex ++ (r4.2) by rw [hx]; try simp);have hxx4 : x4.length = ex.length + r4.2.length := by rw [hx]; simp
 clear hx;obtain ⟨L4, hL⟩ : ∃ z, z = L2 ++ r4.1 := ⟨_, rfl⟩;rw [← hL] at hs;have HL4 := zh (show L4 = L ++ ([Zg 18 0 c.line] ++ ([Zg 13 (-1) c.line] ++ (r4.1))) by rw [hL, HL2.o]; try simp [Zg]);have HN4 := zh (show L4.length = L.length + 1 + 1 + r4.1.length by have := HN2.o; rw [hL]; simp; try omega);have HS4 := zh hs;clear hs hL;obtain ⟨Gc, Gl, Gb, cv, lv, bv, hs, hG⟩ := HS4.o.st;have HSK := zh hs;have HGK := zh hG;have b0 := cz4 hs.blk;have fb0 := fz hs.blk;clear hs hG;obtain ⟨w5, hwn⟩ : ∃ z, w4.setCell ⟨MB, 2, none⟩ (.int .i64 ((m : Int))) = z := ⟨_, rfl⟩;have hsn := SS.of0 (x := w5) HS4.o.lt HGK.o (by rw [← hwn]; exact HSK.o.setM (m)) (by rw [← hwn]; exact Tn.set (Tn.refl _ _) (.inl rfl) _ _);have HS5 := zh (HS4.o.trans hsn);clear hsn
 have HBk := zh (HS5.o.tn.has HB.o hNP);obtain ⟨c0, c1, c2, c3, c4, c5⟩ := cz6 HBk.o;have fc0 := fz HBk.o;clear HBk;go_wp2_with fail;refine (Z8 MB G4 L4 _ _ _ 19 ((L.length : Nat) : Int) c.line w5 HS5.o.here (by unfold Zi; omega) (by unfold Zi; omega) hn3 (by have := HN4.o; omega)).mono ?_;rintro e w6 ⟨rfl, G6, hs⟩;replace hs := HS5.o.trans hs;clear c0 c1 c2 c3 c4 c5 fc0;obtain ⟨L6, hL⟩ : ∃ z, z = L4 ++ [Zg 19 ((L.length : Nat) : Int) c.line] := ⟨_, rfl⟩;rw [← hL] at hs;have HL6 := zh (show L6 = L ++ ([Zg 18 0 c.line] ++ ([Zg 13 (-1) c.line] ++ (r4.1 ++ ([Zg 19 ((L.length : Nat) : Int) c.line])))) by rw [hL, HL4.o]; try simp [Zg]);have HN6 := zh (show L6.length = L.length + 1 + 1 + r4.1.length + 1 by have := HN4.o; rw [hL]; simp; try omega);have HS6 := zh hs;clear hs hL;clear b0 fb0 hwn HSK HGK;have HBk := zh (HS6.o.tn.has HB.o hNP);obtain ⟨c0, c1, c2, c3, c4, c5⟩ := cz6 HBk.o;have fc0 := fz HBk.o;clear HBk;go_wp2_with fail
 go_end0
 refine ⟨rfl, G6, ?_⟩;show SS w w6 MB G G6 (L ++ (Zk (cg (n + 1)) c m lp L.length).1) (stL lp ls (ex ++ (Zk (cg (n + 1)) c m lp L.length).2)) m (stB lp bs);rw [Zfl HO.o];simp only [← HR4.o];refine ((HS.o.here.later HLb.o).trans HS6.o).cast ?_ ?_
 ·rw [HL6.o]; try simp
 ·rw [HX4.o]; try simp
theorem Zso (n : Nat) (IH : ∀ n', n = n' + 1 → Zci n') (w : World) (MB : Nat) (G : Nat → Prop) (L : List Ze) (lp : Option Zr) (ls : List Zak) (bs : List Int) (ex : List Nat) (F : Nat → Prop) (c : Zd) (A : Option Addr) (k m B : Nat) (HS : Hd (SS w w MB G G L (stL lp ls ex) m (stB lp bs))) (HP : Hd (CxP n w MB G L.length lp (ex.length + ls.length + bs.length) F c A k m B)) (ho : c.kind = 15) :
  Calls Tryz.prog 71 #[.pointer (some ⟨MB, 0, none⟩), c.val A k] w (Zb5 n w MB G L lp ls bs ex c m) := by
 have HO := zh ho;unfold Zd.val;have hlwb : Za w (w.alloc (.cells #[.int .i64 c.kind, .int .i64 c.op, .int .i64 c.aB, .int .i64 c.line, .string c.text, .slice A c.kids.length k] 68)) := (Za.refl _).alloc _;obtain ⟨wb, hwb⟩ : ∃ z, w.alloc (.cells #[.int .i64 c.kind, .int .i64 c.op, .int .i64 c.aB, .int .i64 c.line, .string c.text, .slice A c.kids.length k] 68) = z := ⟨_, rfl⟩;rw [hwb] at hlwb;have HB := zh (show wb.heap[w.heap.size]? = some (.cells #[.int .i64 c.kind, .int .i64 c.op, .int .i64 c.aB, .int .i64 c.line, .string c.text, .slice A c.kids.length k] 68 (0, 0)) by rw [← hwb]; exact heap_alloc_new _ _);have hNP : ¬ (w.heap.size = MB ∨ G w.heap.size) := by
  obtain ⟨_, _, _, _, _, _, hs, -⟩ := HS.o.st;rintro (h | h)
  ·have := HS.o.below; omega
  ·have := HS.o.lt _ h; omega
 have HSb := zh ((HS.o.later hlwb).here);have HLb := zh hlwb;have hn3 := HP.o.cv.n3;have hmb := HP.o.mb;have hlb := HP.o.lb;have hbB := HP.o.bB;have hmul : Z0 c * B = Zx c.kids * B + B := by rw [Zq c, Nat.add_mul, Nat.one_mul]
 have tm1 : IntKind.i64.wrap ((m : Int) + 1) = ((m + 1 : Nat) : Int) := by rw [IntWalk.i64_in _ (by omega)]; rfl
 have tm0 : IntKind.i64.wrap (m : Int) = (m : Int) := IntWalk.i64_in _ (by omega);have hkn : 2 ≤ c.kids.length := by have := HP.o.ok.2.1; rw [ho] at this; exact this
 obtain ⟨n', rfl⟩ := HP.o.cv.lev (i := 0) (by omega);obtain ⟨n, rfl⟩ : ∃ z, z = n' := ⟨_, rfl⟩;obtain ⟨kb, ko, B0, q0, rfl, -⟩ := CAt.kid HP.o.cv.kids (i := 0) (by omega);have hkn2 : (2 : Int) ≤ (c.kids.length : Int) := by omega
 have hcnt := Ze3 (c := c) hkn;have hmu := Zh2 (M := B) hcnt;obtain ⟨c0, c1, c2, c3, c4, c5⟩ := cz6 HB.o;have fc0 := fz HB.o;rw [ho] at c0;clear ho;go_enter Tryz.func71, Tryz.ntmps71;obtain ⟨kb1, ko1, Bk1, q1, eA, hca, HE1, hlen1⟩ := HP.o.sub (i := 1) (m1 := m) (lp1 := lp) (w1 := wb) (MB1 := MB) (G1 := G) (e1 := ex.length + (ls).length + (bs).length) (l1 := L.length) (by omega) (Nat.le_trans HLb.o.size HSb.o.tn.size) (HSb.o.keeps' HLb.o HP.o.fr) (HSb.o.off HLb.o HP.o.fr HP.o.flt) (by rw [HO.o]; simp [Zm]) (by omega) (fun x hx => Nat.le_trans (HP.o.lm x hx) (by omega)) (by have := HP.o.exb; have := Zq c; simp; omega) (by omega);cases eA;have d0 := hca.c0;have d1 := hca.c1;have d2 := hca.c2;have d3 := hca.c3;have d4 := hca.c4;have d5 := hca.c5;simp only [Nat.zero_mul, Nat.add_zero, Nat.reduceMul, Nat.add_assoc, Nat.reduceAdd] at d0 d1 d2 d3 d4 d5;clear hca;go_wp2_with fail;refine (IH _ rfl wb MB G L lp ls bs ex F (c.kid 1) Bk1 q1 (m) B (zh HSb.o.here) HE1).mono ?_;rintro e w1 ⟨rfl, G1, hs⟩;replace hs := HSb.o.trans hs;have hq1 := hlen1 (L.length);clear hlen1 d0 d1 d2 d3 d4 d5;obtain ⟨r1, hr⟩ : ∃ z, z = cg (n + 1) (c.kid 1) (m) (lp) (L.length) := ⟨_, rfl⟩;rw [← hr] at hs hq1;have HR1 := zh hr;have hxl1 : r1.2.length ≤ Z0 (c.kid 1) := by rw [hr]; exact Z1 _ _ _ _ _ HE1.o.ok
 clear hr;clear c0 c1 c2 c3 c4 c5 fc0;obtain ⟨x1, hx⟩ : ∃ z, z = ex ++ r1.2 := ⟨_, rfl⟩;rw [← hx] at hs;have HX1 := zh (show x1 = ex ++ (r1.2) by rw [hx]; try simp);have hxx1 : x1.length = ex.length + r1.2.length := by rw [hx]; simp
 clear hx;obtain ⟨L1, hL⟩ : ∃ z, z = L ++ r1.1 := ⟨_, rfl⟩;rw [← hL] at hs;have HL1 := zh (show L1 = L ++ (r1.1) by rw [hL]; try simp [Zg]);have HN1 := zh (show L1.length = L.length + r1.1.length by rw [hL]; simp; try omega);have HS1 := zh hs;clear hs hL;have HBk := zh (HS1.o.tn.has HB.o hNP);obtain ⟨c0, c1, c2, c3, c4, c5⟩ := cz6 HBk.o;have fc0 := fz HBk.o;clear HBk;go_wp2_with fail;refine (Z8 MB G1 L1 _ _ _ 20 0 c.line w1 HS1.o.here (by unfold Zi; omega) (by unfold Zi; omega) hn3 (by have := HN1.o; omega)).mono ?_;rintro e w2 ⟨rfl, G2, hs⟩;replace hs := HS1.o.trans hs;clear c0 c1 c2 c3 c4 c5 fc0;obtain ⟨L2, hL⟩ : ∃ z, z = L1 ++ [Zg 20 0 c.line] := ⟨_, rfl⟩;rw [← hL] at hs;have HL2 := zh (show L2 = L ++ (r1.1 ++ ([Zg 20 0 c.line])) by rw [hL, HL1.o]; try simp [Zg]);have HN2 := zh (show L2.length = L.length + r1.1.length + 1 by have := HN1.o; rw [hL]; simp; try omega);have HS2 := zh hs;clear hs hL;obtain ⟨Gc, Gl, Gb, cv, lv, bv, hs, hG⟩ := HS2.o.st;have HSK := zh hs;have HGK := zh hG;have b0 := cz4 hs.blk;have fb0 := fz hs.blk;clear hs hG;obtain ⟨w3, hwn⟩ : ∃ z, w2.setCell ⟨MB, 2, none⟩ (.int .i64 ((m : Int) + 1)) = z := ⟨_, rfl⟩;have hsn := SS.of0 (x := w3) HS2.o.lt HGK.o (by rw [← hwn]; exact HSK.o.setM (m + 1)) (by rw [← hwn]; exact Tn.set (Tn.refl _ _) (.inl rfl) _ _);have HS3 := zh (HS2.o.trans hsn);clear hsn
 have HBk := zh (HS3.o.tn.has HB.o hNP);obtain ⟨c0, c1, c2, c3, c4, c5⟩ := cz6 HBk.o;have fc0 := fz HBk.o;clear HBk;obtain ⟨kb4, ko4, Bk4, q4, eA, hca, HE4, hlen4⟩ := HP.o.sub (i := 0) (m1 := m + 1) (lp1 := lp) (w1 := w3) (MB1 := MB) (G1 := G2) (e1 := x1.length + (ls).length + (bs).length) (l1 := L2.length) (by omega) (Nat.le_trans HLb.o.size HS3.o.tn.size) (HS3.o.keeps' HLb.o HP.o.fr) (HS3.o.off HLb.o HP.o.fr HP.o.flt) (by rw [HO.o]; simp [Zm]) (by omega) (fun x hx => Nat.le_trans (HP.o.lm x hx) (by omega)) (by have := HP.o.exb; have := Zq c; have := hxx1; have := hxl1; simp; omega) (by have := HN2.o; omega);cases eA;have d0 := hca.c0;have d1 := hca.c1;have d2 := hca.c2;have d3 := hca.c3;have d4 := hca.c4;have d5 := hca.c5;simp only [Nat.zero_mul, Nat.add_zero, Nat.reduceMul, Nat.add_assoc, Nat.reduceAdd] at d0 d1 d2 d3 d4 d5;clear hca;go_wp2_with fail;refine (IH _ rfl w3 MB G2 L2 lp ls bs x1 F (c.kid 0) Bk4 q4 (m + 1) B (zh HS3.o.here) HE4).mono ?_;rintro e w4 ⟨rfl, G4, hs⟩;replace hs := HS3.o.trans hs;rw [HN2.o] at hs;have hq4 := hlen4 (L.length + r1.1.length + 1);clear hlen4 d0 d1 d2 d3 d4 d5;obtain ⟨r4, hr⟩ : ∃ z, z = cg (n + 1) (c.kid 0) (m + 1) (lp) (L.length + r1.1.length + 1) := ⟨_, rfl⟩;rw [← hr] at hs hq4;have HR4 := zh hr;have hxl4 : r4.2.length ≤ Z0 (c.kid 0) := by rw [hr]; exact Z1 _ _ _ _ _ HE4.o.ok
 clear hr;clear c0 c1 c2 c3 c4 c5 fc0;clear b0 fb0 hwn HSK HGK;obtain ⟨x4, hx⟩ : ∃ z, z = x1 ++ r4.2 := ⟨_, rfl⟩;rw [← hx] at hs;have HX4 := zh (show x4 = ex ++ (r1.2 ++ (r4.2)) by rw [hx, HX1.o]; try simp);have hxx4 : x4.length = x1.length + r4.2.length := by rw [hx]; simp
 clear hx;obtain ⟨L4, hL⟩ : ∃ z, z = L2 ++ r4.1 := ⟨_, rfl⟩;rw [← hL] at hs;have HL4 := zh (show L4 = L ++ (r1.1 ++ ([Zg 20 0 c.line] ++ (r4.1))) by rw [hL, HL2.o]; try simp [Zg]);have HN4 := zh (show L4.length = L.length + r1.1.length + 1 + r4.1.length by have := HN2.o; rw [hL]; simp; try omega);have HS4 := zh hs;clear hs hL;obtain ⟨Gc, Gl, Gb, cv, lv, bv, hs, hG⟩ := HS4.o.st;have HSK := zh hs;have HGK := zh hG;have b0 := cz4 hs.blk;have fb0 := fz hs.blk;clear hs hG;obtain ⟨w5, hwn⟩ : ∃ z, w4.setCell ⟨MB, 2, none⟩ (.int .i64 ((m : Int))) = z := ⟨_, rfl⟩;have hsn := SS.of0 (x := w5) HS4.o.lt HGK.o (by rw [← hwn]; exact HSK.o.setM (m)) (by rw [← hwn]; exact Tn.set (Tn.refl _ _) (.inl rfl) _ _);have HS5 := zh (HS4.o.trans hsn);clear hsn
 have HBk := zh (HS5.o.tn.has HB.o hNP);obtain ⟨c0, c1, c2, c3, c4, c5⟩ := cz6 HBk.o;have fc0 := fz HBk.o;clear HBk;go_wp2_with fail;refine (Z8 MB G4 L4 _ _ _ 21 0 c.line w5 HS5.o.here (by unfold Zi; omega) (by unfold Zi; omega) hn3 (by have := HN4.o; omega)).mono ?_;rintro e w6 ⟨rfl, G6, hs⟩;replace hs := HS5.o.trans hs;clear c0 c1 c2 c3 c4 c5 fc0;obtain ⟨L6, hL⟩ : ∃ z, z = L4 ++ [Zg 21 0 c.line] := ⟨_, rfl⟩;rw [← hL] at hs;have HL6 := zh (show L6 = L ++ (r1.1 ++ ([Zg 20 0 c.line] ++ (r4.1 ++ ([Zg 21 0 c.line])))) by rw [hL, HL4.o]; try simp [Zg]);have HN6 := zh (show L6.length = L.length + r1.1.length + 1 + r4.1.length + 1 by have := HN4.o; rw [hL]; simp; try omega);have HS6 := zh hs;clear hs hL;clear b0 fb0 hwn HSK HGK;have HBk := zh (HS6.o.tn.has HB.o hNP);obtain ⟨c0, c1, c2, c3, c4, c5⟩ := cz6 HBk.o;have fc0 := fz HBk.o;clear HBk;go_wp2_with fail
 go_end0
 refine ⟨rfl, G6, ?_⟩;show SS w w6 MB G G6 (L ++ (Zk (cg (n + 1)) c m lp L.length).1) (stL lp ls (ex ++ (Zk (cg (n + 1)) c m lp L.length).2)) m (stB lp bs);rw [Zfm HO.o];simp only [← HR1.o, ← HR4.o];refine ((HS.o.here.later HLb.o).trans HS6.o).cast ?_ ?_
 ·rw [HL6.o]; try simp
 ·rw [HX4.o]; try simp
section
theorem Zob {rc : Cg} {m : Nat} {lp : Option Zr} {B : Nat} : ∀ (l : List Zd) (b : Nat), (∀ x ∈ l, ∀ b, (rc x (m + 1) lp b).1.length + 2 ≤ Z0 x * B) → (Zb1 rc l m lp b).1.length ≤ Zx l * B
 | [], b, _ => by simp [Zb1]
 | x :: l, b, hx => by
  have h1 := hx x (by simp) (b + 1);have h2 := Zob l (b + Zaq rc x m lp b) (fun y hy => hx y (by simp [hy]));simp only [Zb1, List.length_append, Zev, Zx, Nat.add_mul];unfold Zaq at h2 ⊢
  omega
theorem Zoc {n : Nat} {c : Zd} {m : Nat} {lp : Option Zr} {b B : Nat} (hok : okC n c lp.isSome) (hlm : ∀ x, lp = some x → x.marks + 1 ≤ m) (hB : m + 4 * dpC c + 14 ≤ B) : (cg n c (m + 1) lp b).1.length + 2 ≤ Z0 c * B := by
 have h := Zgl (b := b) (B := B - 3) (m := m + 1) hok (fun x hx => Nat.le_trans (hlm x hx) (by omega)) (by omega);have h2 : Z0 c * (B - 3) + Z0 c * 3 = Z0 c * B := by rw [← Nat.mul_add, Nat.sub_add_cancel (by omega)]
 have := Zq c
 omega
section
variable {w x X Y : World} {MB MB1 : Nat} {Gc Gl Gb G2 : Nat → Prop} {L L' : List Ze} {ls : List Zak} {m : Nat} {bs : List Int} {cv lv bv v2 : Value}
theorem SpK.broke {a : Zak} (h : SpK w MB Gc Gl Gb L (ls ++ [a]) m bs cv lv bv) :
  ∃ (lb lc : Nat) (Fi : Nat → Prop) (vo : Value), lv = .slice (some ⟨lb, 0, none⟩) (ls.length + 1) lc ∧ ls.length + 1 ≤ lc ∧ lc ≤ maxLen ∧ lb < w.heap.size ∧ w.cell? ⟨lb, ls.length * 3, none⟩ = some (.bool a.every) ∧ w.cell? ⟨lb, ls.length * 3 + 1, none⟩ = some (.int .i64 a.start) ∧ w.cell? ⟨lb, ls.length * 3 + 2, none⟩ = some vo ∧ (∀ o, w.frozen? ⟨lb, o, none⟩ = false) ∧ Zi a.start ∧ Zah Zc1 1 Zco Fi w a.outs vo ∧ (∀ z, Fi z → Gl z ∧ z ≠ lb) ∧ lb ≠ MB ∧
   ∀ (X Y : World) (z : Int) (v2 : Value), Za w X → Zah Zc1 1 Zco (fun b => Fi b ∨ False ∨ b = X.heap.size) Y (a.outs ++ [z]) v2 → Zb (fun b => ¬ Fi b) X Y → Below 0 X Y →
    SpK (Y.setCell ⟨lb, ls.length * 3 + 2, none⟩ v2) MB Gc (fun b => Gl b ∨ (b = X.heap.size ∧ b < Y.heap.size)) Gb L (ls ++ [{ a with outs := a.outs ++ [z] }]) m bs cv lv bv ∧
    Tn (fun b => b = MB ∨ Gc b ∨ Gl b ∨ Gb b) w (Y.setCell ⟨lb, ls.length * 3 + 2, none⟩ v2) := by
 obtain ⟨lb, lc, Fi, cs, e, h1, h2, hGl, hlb, hc, hfr, hS, hFi, hput⟩ := h.loops.renew Zcb.is (fun b hb => h.lt b (.inr (.inl hb))) (i := ls.length) (q := 2) (by simp) (by decide);simp only [List.length_append, List.length_singleton] at e h1;have he : (ls ++ [a])[ls.length]'(by simp) = a := by simp
 rw [he] at hS;obtain ⟨vo, rfl, h64, hvo⟩ := hS;have hm := Zc h.blk;refine ⟨lb, lc, Fi, vo, e, h1, h2, hlb, by simpa using hc 0 _ rfl, hc 1 _ rfl, hc 2 _ rfl, hfr, h64, hvo, hFi, fun e => h.nM.2.1 (e ▸ hGl), fun X Y z v2 hX hrow hk hb0 => ?_⟩;have hXs := hX.size;have hYs := hk.size;have hKw : ∀ P : Nat → Prop, (∀ b, P b → ¬ Fi b) → Zb P w Y := fun P hP => (Zb.later hX).trans (hk.mono fun b hb => hP b hb);have hrow2 := hput Y (fun b => b = X.heap.size ∧ b < Y.heap.size) { a with outs := a.outs ++ [z] } v2 (fun z hz => by omega) (hKw _ fun b hb => hb.2) (fun x hx => ⟨v2, rfl, h64, (hrow.trim Zap).keep Zap.is (fun b hb => by
  rcases hb with ⟨hb | hb | hb, hl⟩
  ·exact .inl hb
  ·exact hb.elim
  ·exact .inr ⟨hb, hl⟩) (hx.mono fun b hb => by
  rcases hb with ⟨hb | hb | hb, hl⟩
  ·exact .inl hb
  ·exact hb.elim
  ·exact .inr ⟨hb, hl⟩)⟩)
 rw [show (ls ++ [a]).set ls.length { a with outs := a.outs ++ [z] } = ls ++ [{ a with outs := a.outs ++ [z] }] by simp] at hrow2;have hne : ∀ b, Gc b ∨ Gb b → b ≠ lb := fun b hb e => by
  subst e
  rcases hb with hb | hb
  ·exact (h.dC _ hb).1 hGl
  ·exact h.dL _ hGl hb
 have hnf : ∀ b, Gc b ∨ Gb b → ¬ Fi b := fun b hb hf => by
  rcases hb with hb | hb
  ·exact (h.dC _ hb).1 (hFi _ hf).1
  ·exact h.dL _ (hFi _ hf).1 hb
 refine ⟨h.loops' ((hKw _ hnf).set (fun e => hne _ e rfl) _ _) ?_ hrow2 (fun b hb => ?_) (fun b hb => ?_), ?_⟩
 ·rw [Below.heap_setCell _ _ _ _ (fun e => h.nM.2.1 (by rw [show MB = lb from e]; exact hGl))];exact ((hKw (fun b => b = MB) (fun b hb hf => h.nM.2.1 (hb ▸ (hFi _ hf).1))).same MB rfl hm).trans h.blk
 ·rcases hb with hb | hb
  ·exact .inl hb
  ·exact .inr (by omega)
 ·simp only [World.size_setCell]
  rcases hb with hb | hb
  ·have := h.lt b (.inr (.inl hb)); omega
  ·exact hb.2
 ·exact Tn.set (Tn.trans (R := fun b => b = MB ∨ Gc b ∨ Gl b ∨ Gb b) (Tn.later (P := fun _ => False) hX) (Tn.mk (P := Fi) hk hb0) (fun _ h => h.elim) (fun b _ hb => .inr (.inr (.inl (hFi _ hb).1)))) (c := lb) (.inr (.inr (.inl hGl))) _ _
theorem SpK.inner0 (h : SpK w MB Gc Gl Gb L ls m bs cv lv bv) :
  SS (w.alloc (.cells #[cv, .slice none 0 0, .int .i64 0, .slice none 0 0] TSt)) (w.alloc (.cells #[cv, .slice none 0 0, .int .i64 0, .slice none 0 0] TSt)) w.heap.size Gc Gc L [] 0 [] :=
 ⟨⟨Gc, fun _ => False, fun _ => False, cv, _, _, ⟨heap_alloc_new _ _, h.code.keep Z9.is (fun _ h => h) (Zb.later ((Za.refl _).alloc _)), Zah.nil _ _ _ _ _, Zah.nil _ _ _ _ _, fun _ _ => ⟨fun h => h, fun h => h⟩, fun _ h => h.elim, ⟨fun e => by have := h.lt _ (.inl e); omega, fun h => h, fun h => h⟩, fun b hb => by
  rcases hb with hb | hb | hb
  ·have := h.lt b (.inl hb); simp; omega
  ·exact hb.elim
  ·exact hb.elim⟩, fun b hb => by
  rcases hb with hb | hb | hb
  ·exact hb
  ·exact hb.elim
  ·exact hb.elim⟩, Tn.refl _ _, fun _ h => .inl h, fun b hb => by have := h.lt b (.inl hb); simp; omega⟩
theorem SpK.inner1 (h : SpK w MB Gc Gl Gb L ls m bs cv lv bv) (hX : Za w X) (hM : w.heap.size ≤ MB1) (k : SS X x MB1 Gc G2 L' [] 0 []) :
  ∃ (Gc2 : Nat → Prop) (cv2 lv2 bv2 : Value), x.heap[MB1]? = some (.cells #[cv2, lv2, .int .i64 0, bv2] TSt (0, 0)) ∧ x.heap[MB]? = some (.cells #[cv, lv, .int .i64 m, bv] TSt (0, 0)) ∧ (∃ A c, cv2 = .slice A L'.length c) ∧
   ∀ z, Za x z → SpK (z.setCell ⟨MB, 0, none⟩ cv2) MB Gc2 Gl Gb L' ls m bs cv2 lv bv ∧ (∀ b, Gc2 b ∨ Gl b ∨ Gb b → (Gc b ∨ Gl b ∨ Gb b) ∨ w.heap.size ≤ b) ∧ Tn (fun b => b = MB ∨ Gc b ∨ Gl b ∨ Gb b) w (z.setCell ⟨MB, 0, none⟩ cv2) := by
 obtain ⟨Gc2, Gl2, Gb2, cv2, lv2, bv2, hs, hG⟩ := k.st;have hm := Zc h.blk;have hXs := hX.size;have hKw : Zb (fun b => ¬ Gc b) w x := ⟨by have := k.tn.size; omega, fun b hb hlt => ((k.tn.keeps (F := fun b => ¬ Gc b ∧ b < w.heap.size) (fun b hb hp => by
   rcases hp with hp | hp
   ·omega
   ·exact hb.1 hp)).same b ⟨hb, hlt⟩ (by omega)).trans (hX.block b hlt)⟩
 have hmb := (hKw.same MB h.nM.1 hm).trans h.blk;obtain ⟨A, c, e, -⟩ := id hs.code;have hg2 : ∀ b, Gc2 b → Gc b ∨ w.heap.size ≤ b := fun b hb => (k.gG b (hG b (.inl hb))).imp id fun h => by omega
 have hnM : ¬ Gc2 MB := fun hg => (hg2 MB hg).elim h.nM.1 fun h => by omega
 refine ⟨Gc2, cv2, lv2, bv2, hs.blk, hmb, ⟨A, c, e⟩, fun z hz => ⟨?_, fun b hb => ?_, ?_⟩⟩
 ·have hKz : Zb (fun b => Gl b ∨ Gb b) w (z.setCell ⟨MB, 0, none⟩ cv2) := ((hKw.mono fun b hb hc => hb.elim (h.dC b hc).1 (h.dC b hc).2).trans (Zb.later hz)).set (fun e => e.elim h.nM.2.1 h.nM.2.2) _ _;refine h.code' hKz ?_ (hs.code.keep Z9.is (fun _ h => h) ((Zb.later hz).set hnM _ _)) hg2 (fun b hb => by have := hs.lt b (.inl hb); have := hz.size; simp; omega);have := Za1 (o := 0) ((hz.block MB (Zc hmb)).trans hmb) cv2
  simpa using this
 ·rcases hb with hb | hb
  ·exact (hg2 b hb).imp .inl id
  ·exact .inl (.inr hb)
 ·exact Tn.set (Tn.trans (R := fun b => b = MB ∨ Gc b ∨ Gl b ∨ Gb b) (Tn.later (P := fun _ => False) hX) (Tn.trans (R := fun b => b = MB1 ∨ Gc b) k.tn (Tn.later (P := fun _ => False) hz) (fun _ h => h) (fun _ _ h => h.elim)) (fun _ h => h.elim) (fun b hl hb => by
   rcases hb with hb | hb
   ·omega
   ·exact .inr (.inl hb))) (c := MB) (.inl rfl) _ _
end
end
theorem Zsp (n : Nat) (IH : ∀ n', n = n' + 1 → Zci n') (w : World) (MB : Nat) (G : Nat → Prop) (L : List Ze) (lp : Option Zr) (ls : List Zak) (bs : List Int) (ex : List Nat) (F : Nat → Prop) (c : Zd) (A : Option Addr) (k m B : Nat) (HS : Hd (SS w w MB G G L (stL lp ls ex) m (stB lp bs))) (HP : Hd (CxP n w MB G L.length lp (ex.length + ls.length + bs.length) F c A k m B)) (ho : c.kind = 16) :
  Calls Tryz.prog 71 #[.pointer (some ⟨MB, 0, none⟩), c.val A k] w (Zb5 n w MB G L lp ls bs ex c m) := by
 have HO := zh ho;unfold Zd.val;have hlwb : Za w (w.alloc (.cells #[.int .i64 c.kind, .int .i64 c.op, .int .i64 c.aB, .int .i64 c.line, .string c.text, .slice A c.kids.length k] 68)) := (Za.refl _).alloc _;obtain ⟨wb, hwb⟩ : ∃ z, w.alloc (.cells #[.int .i64 c.kind, .int .i64 c.op, .int .i64 c.aB, .int .i64 c.line, .string c.text, .slice A c.kids.length k] 68) = z := ⟨_, rfl⟩;rw [hwb] at hlwb;have HB := zh (show wb.heap[w.heap.size]? = some (.cells #[.int .i64 c.kind, .int .i64 c.op, .int .i64 c.aB, .int .i64 c.line, .string c.text, .slice A c.kids.length k] 68 (0, 0)) by rw [← hwb]; exact heap_alloc_new _ _);have hNP : ¬ (w.heap.size = MB ∨ G w.heap.size) := by
  obtain ⟨_, _, _, _, _, _, hs, -⟩ := HS.o.st;rintro (h | h)
  ·have := HS.o.below; omega
  ·have := HS.o.lt _ h; omega
 have HSb := zh ((HS.o.later hlwb).here);have HLb := zh hlwb;have hn3 := HP.o.cv.n3;have hmb := HP.o.mb;have hlb := HP.o.lb;have hbB := HP.o.bB;have hmul : Z0 c * B = Zx c.kids * B + B := by rw [Zq c, Nat.add_mul, Nat.one_mul]
 have tm1 : IntKind.i64.wrap ((m : Int) + 1) = ((m + 1 : Nat) : Int) := by rw [IntWalk.i64_in _ (by omega)]; rfl
 have tm0 : IntKind.i64.wrap (m : Int) = (m : Int) := IntWalk.i64_in _ (by omega);have hkn : 1 ≤ c.kids.length := by have := HP.o.ok.2.1; rw [ho] at this; exact this
 obtain ⟨n', rfl⟩ := HP.o.cv.lev (i := 0) (by omega);obtain ⟨n, rfl⟩ : ∃ z, z = n' := ⟨_, rfl⟩;obtain ⟨kb, ko, B0, q0, rfl, -⟩ := CAt.kid HP.o.cv.kids (i := 0) (by omega);have hkn2 : (1 : Int) ≤ (c.kids.length : Int) := by omega
 have hcnt := Zfw (c := c) hkn;have hmu := Zj8 (M := B) hcnt;obtain ⟨c0, c1, c2, c3, c4, c5⟩ := cz6 HB.o;have fc0 := fz HB.o;rw [ho] at c0;clear ho;have hks1 : (c.kids.length : Int) ≤ 9223372036854775807 := by
  obtain ⟨A', k', ek, hkc, hkm, _⟩ := HP.o.cv.kids;unfold maxLen at hkm;cases ek
  omega
 have hin : ∀ i, Zm c.kind i lp.isSome = lp.isSome := fun i => by rw [HO.o]; simp [Zm]
 have HIN := zh hin;clear hin;have HPB := zh (CxP.move HP.o (Zb.later HLb.o) HLb.o.size (HSb.o.off HLb.o HP.o.fr HP.o.flt));have tml : IntKind.i64.wrap ((c.kids.length : Int) - 1) = ((c.kids.length - 1 : Nat) : Int) := by rw [IntWalk.i64_in _ (by omega)]; omega
 clear tm1 tm0;go_enter Tryz.func71, Tryz.ntmps71;go_wp2_with fail
 go_loopw [9] (fun iv wr => ∃ j : Nat, j + 1 ≤ c.kids.length ∧ iv = .int .i64 j ∧ ∃ G', SS wb wr MB G G' (L ++ (Zb1 (cg (n + 1)) (c.kids.take j) m lp L.length).1) (stL lp ls (ex ++ (Zb1 (cg (n + 1)) (c.kids.take j) m lp L.length).2)) m (stB lp bs)) (fun iv _ => c.kids.length - (intOf iv).toNat)
 case atStart => exact ⟨0, hkn, rfl, G, by simpa [Zb1] using HSb.o⟩
 case round =>
  obtain ⟨j, hj, rfl, G1, hs1⟩ := hrel;have HS1 := zh hs1;clear hs1;clear c0 c1 c2 c3 c4 c5 fc0;have HBk := zh (HS1.o.tn.has HB.o hNP);obtain ⟨c0, c1, c2, c3, c4, c5⟩ := cz6 HBk.o;have fc0 := fz HBk.o;clear HBk;have hlt : j < c.kids.length := hj;have hxl : (Zb1 (cg (n + 1)) (c.kids.take j) m lp L.length).2.length ≤ Zx (c.kids.take j) := Zkp _ _ (fun x hx b => by
   obtain ⟨i, hi, rfl⟩ := List.getElem_of_mem hx;rw [List.length_take] at hi;rw [List.getElem_take];have := HP.o.ok.2.2.2 i (by omega);rw [HIN.o] at this;exact Z1 _ _ _ _ _ this)
  have hll : (Zb1 (cg (n + 1)) (c.kids.take j) m lp L.length).1.length ≤ Zx (c.kids.take j) * B := Zob _ _ (fun x hx b => by
   obtain ⟨i, hi, rfl⟩ := List.getElem_of_mem hx;rw [List.length_take] at hi;rw [List.getElem_take];have := HP.o.ok.2.2.2 i (by omega);rw [HIN.o] at this;have hd := Zdm (c := c) (i := i) (by omega);exact Zoc this HP.o.lm (by omega))
  have hct := Zdx c.kids j hlt;have hmu := Zh2 (M := B) hct;obtain ⟨M, hM⟩ : ∃ z, z = L ++ (Zb1 (cg (n + 1)) (c.kids.take j) m lp L.length).1 := ⟨_, rfl⟩;have HM := zh hM;have hml : M.length = L.length + (Zb1 (cg (n + 1)) (c.kids.take j) m lp L.length).1.length := by rw [hM]; simp
  rw [← hM] at HS1;clear hM;obtain ⟨X, hX⟩ : ∃ z, z = ex ++ (Zb1 (cg (n + 1)) (c.kids.take j) m lp L.length).2 := ⟨_, rfl⟩;have HX := zh hX;have hxx : X.length = ex.length + (Zb1 (cg (n + 1)) (c.kids.take j) m lp L.length).2.length := by rw [hX]; simp
  rw [← hX] at HS1;clear hX;have HML := zh hml
  by_cases hl2 : j + 1 < c.kids.length
  ·have hlt' : (j : Int) < ((c.kids.length - 1 : Nat) : Int) := by omega
   have hlt2 : (j : Int) < (c.kids.length : Int) := by omega
   obtain ⟨kb1, ko1, Bk, q, eA, hca, HE1, -⟩ := HPB.o.sub (i := j) (m1 := m + 1) (lp1 := lp) (w1 := _) (G1 := G1) (MB1 := MB) (e1 := X.length + ls.length + bs.length) (l1 := M.length + 1) hlt HS1.o.tn.size (HS1.o.keeps HPB.o.fr) (HS1.o.off (Za.refl _) HPB.o.fr HPB.o.flt) (HIN.o j) (by omega) (fun x hx => Nat.le_trans (HP.o.lm x hx) (by omega)) (by have := HP.o.exb; have := Zq c; rw [Za4 hlt]; omega) (by rw [Za4 hlt]; omega);have hlen2 : (cg (n + 1) (c.kid j) (m + 1) lp (M.length + 1)).1.length + 2 ≤ Z0 (c.kid j) * B := by
    have h1 := HP.o.ok.2.2.2 j hlt;rw [HIN.o] at h1;have hd := Zdm (c := c) hlt;rw [Za4 hlt];exact Zoc h1 HP.o.lm (by omega)
   rw [Za4 hlt] at hlen2;have hlb2 : M.length + (cg (n + 1) c.kids[j] (m + 1) lp (M.length + 1)).1.length + 2 ≤ 134217728 := by omega
   rw [← Za4 hlt] at hlb2;cases eA;have d0 := hca.c0;have d1 := hca.c1;have d2 := hca.c2;have d3 := hca.c3;have d4 := hca.c4;have d5 := hca.c5;clear hca hxl hll hct hmu hlen2 hml hxx;go_wp2_with fail;refine (Zc8 _ (IH _ rfl) _ MB G1 M lp ls bs X F (c.kid j) Bk q m B 0 (zh HS1.o.here) HE1 (by unfold Zi; omega)).mono ?_;rintro e w2 ⟨rfl, G2, hs⟩;obtain ⟨r2, hr⟩ : ∃ z, z = cg (n + 1) (c.kid j) (m + 1) lp (M.length + 1) := ⟨_, rfl⟩;rw [← hr] at hs hlb2;have HR2 := zh hr;have HS2 := zh (HS1.o.trans hs);clear hs hr d0 d1 d2 d3 d4 d5;go_wp2_with fail;refine (Zb9 MB G2 _ _ _ _ M.length _ HS2.o.here (by simp) (by simp; omega)).mono ?_;rintro e w3 ⟨rfl, hs⟩;have hpt := Zav (LL := M ++ (Zg 13 0 (c.kid j).line :: (r2.1 ++ [Zg 14 0 (c.kid j).line]))) (A := M) (B := r2.1 ++ [Zg 14 0 (c.kid j).line]) (op := 13) (a0 := 0) (l := (c.kid j).line) (i := M.length) (k := M.length + (r2.1.length + 2)) rfl rfl (by simp);rw [hpt] at hs;have HS3 := zh (show SS wb w3 MB G G2 (L ++ (Zb1 (cg (n + 1)) (c.kids.take (j + 1)) m lp L.length).1) (stL lp ls (ex ++ (Zb1 (cg (n + 1)) (c.kids.take (j + 1)) m lp L.length).2)) m (stB lp bs) from (HS2.o.trans hs).cast (by rw [List.take_succ_eq_append_getElem hlt, Zf0, ← Za4 hlt, ← HML.o, HR2.o]; simp only [bnd, Zaq]; rw [HM.o]; simp) (by rw [List.take_succ_eq_append_getElem hlt, Zf0, ← Za4 hlt, ← HML.o, HR2.o, HX.o]; simp));clear hs hpt;go_wp2_with fail
   go_roundw
   case rel => exact ⟨j + 1, by omega, by go_num, G2, HS3.o⟩
   case measure => simp [intOf]; omega
  ·have hjl : c.kids.length = j + 1 := by omega
   have hlt' : ¬ (j : Int) < ((c.kids.length - 1 : Nat) : Int) := by omega
   have hlt2 : (j : Int) < (c.kids.length : Int) := by omega
   have hjn : c.kids.length - 1 = j := by omega
   have hjn2 : ((c.kids.length - 1 : Nat) : Int) = (j : Int) := by omega
   obtain ⟨kb1, ko1, Bk, q, eA, hca, HE1, -⟩ := HPB.o.sub (i := j) (m1 := m) (lp1 := lp) (w1 := _) (G1 := G1) (MB1 := MB) (e1 := X.length + ls.length + bs.length) (l1 := M.length) hlt HS1.o.tn.size (HS1.o.keeps HPB.o.fr) (HS1.o.off (Za.refl _) HPB.o.fr HPB.o.flt) (HIN.o j) (by omega) HP.o.lm (by have := HP.o.exb; have := Zq c; rw [Za4 hlt]; omega) (by rw [Za4 hlt]; omega);cases eA;have d0 := hca.c0;have d1 := hca.c1;have d2 := hca.c2;have d3 := hca.c3;have d4 := hca.c4;have d5 := hca.c5;clear hca hxl hll hct hmu hml hxx;go_wp2_with fail;refine (IH _ rfl _ MB G1 M lp ls bs X F (c.kid j) Bk q m B (zh HS1.o.here) HE1).mono ?_;rintro e w2 ⟨rfl, G2, hs⟩;have HS2 := zh (HS1.o.trans hs);clear hs d0 d1 d2 d3 d4 d5;go_wp2_with fail
   go_end0
   have hkk : c.kids = c.kids.take j ++ [c.kid j] := by
    rw [Za4 hlt, ← List.take_succ_eq_append_getElem hlt, ← hjl, List.take_length]
   have hblk : Zbt (cg (n + 1)) c.kids m lp L.length = ((Zb1 (cg (n + 1)) (c.kids.take j) m lp L.length).1 ++ (cg (n + 1) (c.kid j) m lp (L.length + (Zb1 (cg (n + 1)) (c.kids.take j) m lp L.length).1.length)).1, (Zb1 (cg (n + 1)) (c.kids.take j) m lp L.length).2 ++ (cg (n + 1) (c.kid j) m lp (L.length + (Zb1 (cg (n + 1)) (c.kids.take j) m lp L.length).1.length)).2) := (congrArg (fun l => Zbt (cg (n + 1)) l m lp L.length) hkk).trans (Zhw ..);refine ⟨rfl, G2, ?_⟩;show SS w w2 MB G G2 (L ++ (Zk (cg (n + 1)) c m lp L.length).1) (stL lp ls (ex ++ (Zk (cg (n + 1)) c m lp L.length).2)) m (stB lp bs);rw [Zfn HO.o, hblk, ← HML.o];exact ((HS.o.here.later HLb.o).trans HS2.o).cast (by rw [HM.o]; simp) (by rw [HX.o]; simp)
theorem Zsq (n : Nat) (IH : ∀ n', n = n' + 1 → Zci n') (w : World) (MB : Nat) (G : Nat → Prop) (L : List Ze) (lp : Option Zr) (ls : List Zak) (bs : List Int) (ex : List Nat) (F : Nat → Prop) (c : Zd) (A : Option Addr) (k m B : Nat) (HS : Hd (SS w w MB G G L (stL lp ls ex) m (stB lp bs))) (HP : Hd (CxP n w MB G L.length lp (ex.length + ls.length + bs.length) F c A k m B)) (ho : c.kind = 17) :
  Calls Tryz.prog 71 #[.pointer (some ⟨MB, 0, none⟩), c.val A k] w (Zb5 n w MB G L lp ls bs ex c m) := by
 have HO := zh ho;unfold Zd.val;have hlwb : Za w (w.alloc (.cells #[.int .i64 c.kind, .int .i64 c.op, .int .i64 c.aB, .int .i64 c.line, .string c.text, .slice A c.kids.length k] 68)) := (Za.refl _).alloc _;obtain ⟨wb, hwb⟩ : ∃ z, w.alloc (.cells #[.int .i64 c.kind, .int .i64 c.op, .int .i64 c.aB, .int .i64 c.line, .string c.text, .slice A c.kids.length k] 68) = z := ⟨_, rfl⟩;rw [hwb] at hlwb;have HB := zh (show wb.heap[w.heap.size]? = some (.cells #[.int .i64 c.kind, .int .i64 c.op, .int .i64 c.aB, .int .i64 c.line, .string c.text, .slice A c.kids.length k] 68 (0, 0)) by rw [← hwb]; exact heap_alloc_new _ _);have hNP : ¬ (w.heap.size = MB ∨ G w.heap.size) := by
  obtain ⟨_, _, _, _, _, _, hs, -⟩ := HS.o.st;rintro (h | h)
  ·have := HS.o.below; omega
  ·have := HS.o.lt _ h; omega
 have HSb := zh ((HS.o.later hlwb).here);have HLb := zh hlwb;have hn3 := HP.o.cv.n3;have hmb := HP.o.mb;have hlb := HP.o.lb;have hbB := HP.o.bB;have hmul : Z0 c * B = Zx c.kids * B + B := by rw [Zq c, Nat.add_mul, Nat.one_mul]
 have tm1 : IntKind.i64.wrap ((m : Int) + 1) = ((m + 1 : Nat) : Int) := by rw [IntWalk.i64_in _ (by omega)]; rfl
 have tm0 : IntKind.i64.wrap (m : Int) = (m : Int) := IntWalk.i64_in _ (by omega);have hkn : 3 ≤ c.kids.length := by have := HP.o.ok.2.1; rw [ho] at this; exact this
 obtain ⟨n', rfl⟩ := HP.o.cv.lev (i := 0) (by omega);obtain ⟨n, rfl⟩ : ∃ z, z = n' := ⟨_, rfl⟩;obtain ⟨kb, ko, B0, q0, rfl, -⟩ := CAt.kid HP.o.cv.kids (i := 0) (by omega);have hkn2 : (3 : Int) ≤ (c.kids.length : Int) := by omega
 have hcnt := Ztj (c := c) hkn;have hmu := Zu9 (M := B) hcnt;obtain ⟨c0, c1, c2, c3, c4, c5⟩ := cz6 HB.o;have fc0 := fz HB.o;rw [ho] at c0;clear ho;go_enter Tryz.func71, Tryz.ntmps71;obtain ⟨kb1, ko1, Bk1, q1, eA, hca, HE1, hlen1⟩ := HP.o.sub (i := 0) (m1 := m + 1) (lp1 := lp) (w1 := wb) (MB1 := MB) (G1 := G) (e1 := ex.length + (ls).length + (bs).length) (l1 := L.length + 1) (by omega) (Nat.le_trans HLb.o.size HSb.o.tn.size) (HSb.o.keeps' HLb.o HP.o.fr) (HSb.o.off HLb.o HP.o.fr HP.o.flt) (by rw [HO.o]; simp [Zm]) (by omega) (fun x hx => Nat.le_trans (HP.o.lm x hx) (by omega)) (by have := HP.o.exb; have := Zq c; simp; omega) (by omega);cases eA;have d0 := hca.c0;have d1 := hca.c1;have d2 := hca.c2;have d3 := hca.c3;have d4 := hca.c4;have d5 := hca.c5;simp only [Nat.zero_mul, Nat.add_zero, Nat.reduceMul, Nat.add_assoc, Nat.reduceAdd] at d0 d1 d2 d3 d4 d5;clear hca;go_wp2_with fail;refine (Zc8 _ (IH _ rfl) wb MB G L lp ls bs ex F (c.kid 0) Bk1 q1 (m) B 0 (zh HSb.o.here) HE1 (by unfold Zi; omega)).mono ?_;rintro e w1 ⟨rfl, G1, hs⟩;replace hs := HSb.o.trans hs;have hq1 := hlen1 (L.length + 1);clear hlen1 d0 d1 d2 d3 d4 d5;obtain ⟨r1, hr⟩ : ∃ z, z = cg (n + 1) (c.kid 0) (m + 1) (lp) (L.length + 1) := ⟨_, rfl⟩;rw [← hr] at hs hq1;have HR1 := zh hr;have hxl1 : r1.2.length ≤ Z0 (c.kid 0) := by rw [hr]; exact Z1 _ _ _ _ _ HE1.o.ok
 clear hr;clear c0 c1 c2 c3 c4 c5 fc0;obtain ⟨x1, hx⟩ : ∃ z, z = ex ++ r1.2 := ⟨_, rfl⟩;rw [← hx] at hs;have HX1 := zh (show x1 = ex ++ (r1.2) by rw [hx]; try simp);have hxx1 : x1.length = ex.length + r1.2.length := by rw [hx]; simp
 clear hx;obtain ⟨L1, hL⟩ : ∃ z, z = L ++ (Zg 13 0 (c.kid 0).line :: (r1.1 ++ [Zg 14 0 (c.kid 0).line])) := ⟨_, rfl⟩;rw [← hL] at hs;have HL1 := zh (show L1 = L ++ ([Zg 13 0 (c.kid 0).line] ++ (r1.1 ++ ([Zg 14 0 (c.kid 0).line]))) by rw [hL]; try simp [Zg]);have HN1 := zh (show L1.length = L.length + r1.1.length + 2 by rw [hL]; simp; try omega);have HS1 := zh hs;clear hs hL;have HBk := zh (HS1.o.tn.has HB.o hNP);obtain ⟨c0, c1, c2, c3, c4, c5⟩ := cz6 HBk.o;have fc0 := fz HBk.o;clear HBk;obtain ⟨kb2, ko2, Bk2, q2, eA, hca, HE2, hlen2⟩ := HP.o.sub (i := 1) (m1 := m) (lp1 := lp) (w1 := w1) (MB1 := MB) (G1 := G1) (e1 := x1.length + (ls).length + (bs).length) (l1 := L1.length) (by omega) (Nat.le_trans HLb.o.size HS1.o.tn.size) (HS1.o.keeps' HLb.o HP.o.fr) (HS1.o.off HLb.o HP.o.fr HP.o.flt) (by rw [HO.o]; simp [Zm]) (by omega) (fun x hx => Nat.le_trans (HP.o.lm x hx) (by omega)) (by have := HP.o.exb; have := Zq c; have := hxx1; have := hxl1; simp; omega) (by have := HN1.o; omega);cases eA;have d0 := hca.c0;have d1 := hca.c1;have d2 := hca.c2;have d3 := hca.c3;have d4 := hca.c4;have d5 := hca.c5;simp only [Nat.zero_mul, Nat.add_zero, Nat.reduceMul, Nat.add_assoc, Nat.reduceAdd] at d0 d1 d2 d3 d4 d5;clear hca;go_wp2_with fail;refine (IH _ rfl w1 MB G1 L1 lp ls bs x1 F (c.kid 1) Bk2 q2 (m) B (zh HS1.o.here) HE2).mono ?_;rintro e w2 ⟨rfl, G2, hs⟩;replace hs := HS1.o.trans hs;rw [HN1.o] at hs;have hq2 := hlen2 (L.length + r1.1.length + 2);clear hlen2 d0 d1 d2 d3 d4 d5;obtain ⟨r2, hr⟩ : ∃ z, z = cg (n + 1) (c.kid 1) (m) (lp) (L.length + r1.1.length + 2) := ⟨_, rfl⟩
 rw [← hr] at hs hq2;have HR2 := zh hr;have hxl2 : r2.2.length ≤ Z0 (c.kid 1) := by rw [hr]; exact Z1 _ _ _ _ _ HE2.o.ok
 clear hr;clear c0 c1 c2 c3 c4 c5 fc0;obtain ⟨x2, hx⟩ : ∃ z, z = x1 ++ r2.2 := ⟨_, rfl⟩;rw [← hx] at hs;have HX2 := zh (show x2 = ex ++ (r1.2 ++ (r2.2)) by rw [hx, HX1.o]; try simp);have hxx2 : x2.length = x1.length + r2.2.length := by rw [hx]; simp
 clear hx;obtain ⟨L2, hL⟩ : ∃ z, z = L1 ++ r2.1 := ⟨_, rfl⟩;rw [← hL] at hs;have HL2 := zh (show L2 = L ++ ([Zg 13 0 (c.kid 0).line] ++ (r1.1 ++ ([Zg 14 0 (c.kid 0).line] ++ (r2.1)))) by rw [hL, HL1.o]; try simp [Zg]);have HN2 := zh (show L2.length = L.length + r1.1.length + 2 + r2.1.length by have := HN1.o; rw [hL]; simp; try omega);have HS2 := zh hs;clear hs hL;have HBk := zh (HS2.o.tn.has HB.o hNP);obtain ⟨c0, c1, c2, c3, c4, c5⟩ := cz6 HBk.o;have fc0 := fz HBk.o;clear HBk;go_wp2_with fail;refine (Z8 MB G2 L2 _ _ _ 15 0 c.line w2 HS2.o.here (by unfold Zi; omega) (by unfold Zi; omega) hn3 (by have := HN2.o; omega)).mono ?_;rintro e w3 ⟨rfl, G3, hs⟩;replace hs := HS2.o.trans hs;clear c0 c1 c2 c3 c4 c5 fc0;obtain ⟨L3, hL⟩ : ∃ z, z = L2 ++ [Zg 15 0 c.line] := ⟨_, rfl⟩;rw [← hL] at hs;have HL3 := zh (show L3 = L ++ ([Zg 13 0 (c.kid 0).line] ++ (r1.1 ++ ([Zg 14 0 (c.kid 0).line] ++ (r2.1 ++ ([Zg 15 0 c.line]))))) by rw [hL, HL2.o]; try simp [Zg]);have HN3 := zh (show L3.length = L.length + r1.1.length + 2 + r2.1.length + 1 by have := HN2.o; rw [hL]; simp; try omega);have HS3 := zh hs;clear hs hL;have HBk := zh (HS3.o.tn.has HB.o hNP);obtain ⟨c0, c1, c2, c3, c4, c5⟩ := cz6 HBk.o;have fc0 := fz HBk.o;clear HBk;go_wp2_with fail;refine (Zb9 MB G3 L3 _ _ _ L.length w3 HS3.o.here (by have := HN1.o; have := HN2.o; have := HN3.o; omega) (by have := HN3.o; omega)).mono ?_;rintro e w4 ⟨rfl, hs⟩;replace hs := HS3.o.trans hs;clear c0 c1 c2 c3 c4 c5 fc0;have hpt := Zav (LL := L3) (A := L) (B := r1.1 ++ ([Zg 14 0 (c.kid 0).line] ++ (r2.1 ++ ([Zg 15 0 c.line])))) (op := 13) (a0 := 0) (l := (c.kid 0).line) (i := L.length) (k := L.length + r1.1.length + 2 + r2.1.length + 1) (by rw [HL3.o]; simp) (by have := HN1.o; have := HN2.o; have := HN3.o; simp; try omega) HN3.o
 rw [hpt] at hs;obtain ⟨L4, hL⟩ : ∃ z, z = L ++ Zg 13 ((L.length + r1.1.length + 2 + r2.1.length + 1 : Nat) : Int) (c.kid 0).line :: (r1.1 ++ ([Zg 14 0 (c.kid 0).line] ++ (r2.1 ++ ([Zg 15 0 c.line])))) := ⟨_, rfl⟩;rw [← hL] at hs;have HL4 := zh (show L4 = L ++ ([Zg 13 ((L.length + r1.1.length + 2 + r2.1.length + 1 : Nat) : Int) (c.kid 0).line] ++ (r1.1 ++ ([Zg 14 0 (c.kid 0).line] ++ (r2.1 ++ ([Zg 15 0 c.line]))))) by rw [hL]; simp);have HN4 := zh (show L4.length = L.length + r1.1.length + 2 + r2.1.length + 1 by rw [hL, ← hpt, Zp, HN3.o]);have HS4 := zh hs;clear hs hL hpt;have HBk := zh (HS4.o.tn.has HB.o hNP);obtain ⟨c0, c1, c2, c3, c4, c5⟩ := cz6 HBk.o;have fc0 := fz HBk.o;clear HBk;obtain ⟨kb5, ko5, Bk5, q5, eA, hca, HE5, hlen5⟩ := HP.o.sub (i := 2) (m1 := m) (lp1 := lp) (w1 := w4) (MB1 := MB) (G1 := G3) (e1 := x2.length + (ls).length + (bs).length) (l1 := L4.length) (by omega) (Nat.le_trans HLb.o.size HS4.o.tn.size) (HS4.o.keeps' HLb.o HP.o.fr) (HS4.o.off HLb.o HP.o.fr HP.o.flt) (by rw [HO.o]; simp [Zm]) (by omega) (fun x hx => Nat.le_trans (HP.o.lm x hx) (by omega)) (by have := HP.o.exb; have := Zq c; have := hxx1; have := hxl1; have := hxx2; have := hxl2; simp; omega) (by have := HN4.o; omega);cases eA;have d0 := hca.c0;have d1 := hca.c1;have d2 := hca.c2;have d3 := hca.c3;have d4 := hca.c4;have d5 := hca.c5;simp only [Nat.zero_mul, Nat.add_zero, Nat.reduceMul, Nat.add_assoc, Nat.reduceAdd] at d0 d1 d2 d3 d4 d5;clear hca;go_wp2_with fail;refine (IH _ rfl w4 MB G3 L4 lp ls bs x2 F (c.kid 2) Bk5 q5 (m) B (zh HS4.o.here) HE5).mono ?_
 rintro e w5 ⟨rfl, G5, hs⟩;replace hs := HS4.o.trans hs;rw [HN4.o] at hs;have hq5 := hlen5 (L.length + r1.1.length + 2 + r2.1.length + 1);clear hlen5 d0 d1 d2 d3 d4 d5;obtain ⟨r5, hr⟩ : ∃ z, z = cg (n + 1) (c.kid 2) (m) (lp) (L.length + r1.1.length + 2 + r2.1.length + 1) := ⟨_, rfl⟩;rw [← hr] at hs hq5;have HR5 := zh hr;have hxl5 : r5.2.length ≤ Z0 (c.kid 2) := by rw [hr]; exact Z1 _ _ _ _ _ HE5.o.ok
 clear hr;clear c0 c1 c2 c3 c4 c5 fc0;obtain ⟨x5, hx⟩ : ∃ z, z = x2 ++ r5.2 := ⟨_, rfl⟩;rw [← hx] at hs;have HX5 := zh (show x5 = ex ++ (r1.2 ++ (r2.2 ++ (r5.2))) by rw [hx, HX2.o]; try simp);have hxx5 : x5.length = x2.length + r5.2.length := by rw [hx]; simp
 clear hx;obtain ⟨L5, hL⟩ : ∃ z, z = L4 ++ r5.1 := ⟨_, rfl⟩;rw [← hL] at hs;have HL5 := zh (show L5 = L ++ ([Zg 13 ((L.length + r1.1.length + 2 + r2.1.length + 1 : Nat) : Int) (c.kid 0).line] ++ (r1.1 ++ ([Zg 14 0 (c.kid 0).line] ++ (r2.1 ++ ([Zg 15 0 c.line] ++ (r5.1)))))) by rw [hL, HL4.o]; try simp [Zg]);have HN5 := zh (show L5.length = L.length + r1.1.length + 2 + r2.1.length + 1 + r5.1.length by have := HN4.o; rw [hL]; simp; try omega);have HS5 := zh hs;clear hs hL;have HBk := zh (HS5.o.tn.has HB.o hNP);obtain ⟨c0, c1, c2, c3, c4, c5⟩ := cz6 HBk.o;have fc0 := fz HBk.o;clear HBk;go_wp2_with fail;refine (Zb9 MB G5 L5 _ _ _ L2.length w5 HS5.o.here (by have := HN1.o; have := HN2.o; have := HN3.o; have := HN4.o; have := HN5.o; omega) (by have := HN5.o; omega)).mono ?_;rintro e w6 ⟨rfl, hs⟩;replace hs := HS5.o.trans hs;clear c0 c1 c2 c3 c4 c5 fc0;have hpt := Zav (LL := L5) (A := L ++ ([Zg 13 ((L.length + r1.1.length + 2 + r2.1.length + 1 : Nat) : Int) (c.kid 0).line] ++ (r1.1 ++ ([Zg 14 0 (c.kid 0).line] ++ (r2.1))))) (B := r5.1) (op := 15) (a0 := 0) (l := c.line) (i := L2.length) (k := L.length + r1.1.length + 2 + r2.1.length + 1 + r5.1.length) (by rw [HL5.o]; simp) (by have := HN1.o; have := HN2.o; have := HN3.o; have := HN4.o; have := HN5.o; simp; try omega) HN5.o;rw [hpt] at hs;obtain ⟨L6, hL⟩ : ∃ z, z = L ++ ([Zg 13 ((L.length + r1.1.length + 2 + r2.1.length + 1 : Nat) : Int) (c.kid 0).line] ++ (r1.1 ++ ([Zg 14 0 (c.kid 0).line] ++ (r2.1)))) ++ Zg 15 ((L.length + r1.1.length + 2 + r2.1.length + 1 + r5.1.length : Nat) : Int) c.line :: (r5.1) := ⟨_, rfl⟩
 rw [← hL] at hs;have HL6 := zh (show L6 = L ++ ([Zg 13 ((L.length + r1.1.length + 2 + r2.1.length + 1 : Nat) : Int) (c.kid 0).line] ++ (r1.1 ++ ([Zg 14 0 (c.kid 0).line] ++ (r2.1 ++ ([Zg 15 ((L.length + r1.1.length + 2 + r2.1.length + 1 + r5.1.length : Nat) : Int) c.line] ++ (r5.1)))))) by rw [hL]; simp);have HN6 := zh (show L6.length = L.length + r1.1.length + 2 + r2.1.length + 1 + r5.1.length by rw [hL, ← hpt, Zp, HN5.o]);have HS6 := zh hs;clear hs hL hpt;have HBk := zh (HS6.o.tn.has HB.o hNP);obtain ⟨c0, c1, c2, c3, c4, c5⟩ := cz6 HBk.o;have fc0 := fz HBk.o;clear HBk;go_wp2_with fail
 go_end0
 refine ⟨rfl, G5, ?_⟩;show SS w w6 MB G G5 (L ++ (Zk (cg (n + 1)) c m lp L.length).1) (stL lp ls (ex ++ (Zk (cg (n + 1)) c m lp L.length).2)) m (stB lp bs);rw [Zfo HO.o];simp only [bnd, Zaq];simp only [← HR1.o, ← HR2.o, ← HR5.o];refine ((HS.o.here.later HLb.o).trans HS6.o).cast ?_ ?_
 ·rw [HL6.o]; try simp [Nat.add_assoc]
 ·rw [HX5.o]; try simp
theorem Zuw : (Tryz.prog.info? TSl).map (fun i => (i.zero, i.size, i.bytes)) = some (some (.agg #[.bool false, .int .i64 0, .slice none 0 0]), 3, 40) := by kernel_rfl
theorem Zmc (n : Nat) (IH : Zci n) (w : World) (MB : Nat) (G : Nat → Prop) (L : List Ze) (x : Zr) (ls : List Zak) (bs : List Int) (F : Nat → Prop) (c : Zd) (A : Option Addr) (k m B : Nat) (fail : Int) (HS : Hd (SS w w MB G G L ls m (bs ++ [(x.marks : Int)]))) (HP : Hd (CxP n w MB G (L.length + 1) (some x) (0 + ls.length + bs.length) F c A k (m + 1) B)) (hf : Zi fail) (hst : x.begin_ ≤ 134217728) :
  Calls Tryz.prog 162 #[.pointer (some ⟨MB, 0, none⟩), c.val A k, .int .i64 fail, .bool x.every, .int .i64 x.begin_] w fun e w' => e = .returned (.int .i64 (L.length : Nat)) ∧ ∃ G', SS w w' MB G G' (L ++ (Zg 13 fail c.line :: ((cg (n + 1) c (m + 1) (some x) (L.length + 1)).1 ++ [Zg 14 0 c.line]))) (ls ++ [⟨x.every, x.begin_, (cg (n + 1) c (m + 1) (some x) (L.length + 1)).2.map Int.ofNat⟩]) m (bs ++ [(x.marks : Int)]) := by
 unfold Zd.val;have hlwb : Za w (w.alloc (.cells #[.int .i64 c.kind, .int .i64 c.op, .int .i64 c.aB, .int .i64 c.line, .string c.text, .slice A c.kids.length k] 68)) := (Za.refl _).alloc _;obtain ⟨wb, hwb⟩ : ∃ z, w.alloc (.cells #[.int .i64 c.kind, .int .i64 c.op, .int .i64 c.aB, .int .i64 c.line, .string c.text, .slice A c.kids.length k] 68) = z := ⟨_, rfl⟩;rw [hwb] at hlwb;have HB := zh (show wb.heap[w.heap.size]? = some (.cells #[.int .i64 c.kind, .int .i64 c.op, .int .i64 c.aB, .int .i64 c.line, .string c.text, .slice A c.kids.length k] 68 (0, 0)) by rw [← hwb]; exact heap_alloc_new _ _);have hNP : ¬ (w.heap.size = MB ∨ G w.heap.size) := by
  obtain ⟨_, _, _, _, _, _, hs, -⟩ := HS.o.st;rintro (h | h)
  ·have := HS.o.below; omega
  ·have := HS.o.lt _ h; omega
 have HSb := zh ((HS.o.later hlwb).here);have HLb := zh hlwb;obtain ⟨Gc, Gl, Gb, cv, lv, bv, hs, hG⟩ := HSb.o.st;have HSK := zh hs;have HGK := zh hG;have b0 := cz4 hs.blk;have fb0 := fz hs.blk;clear hs hG;have hlsl : ls.length ≤ 1000000 := by have := HP.o.exb; omega
 obtain ⟨Al, cl, rfl, hlc, hlm, -⟩ := id HSK.o.loops;obtain ⟨iI, hiI, hz0, hz1, hz2⟩ := info_parts Zuw;have h64 : Zi (x.begin_ : Int) := ⟨by omega, by omega⟩;have hX : Za wb (wb.alloc (.cells #[.bool x.every, .int .i64 x.begin_, .slice none 0 0] TSl)) := (Za.refl _).alloc _;have HX := zh hX;have HROW := zh (HSK.o.loops.keep Zcb.is (fun _ h => h) (Zb.later hX));have HEL := zh (show Zie (fun _ => False) (wb.alloc (.cells #[.bool x.every, .int .i64 x.begin_, .slice none 0 0] TSl)) ⟨x.every, x.begin_, []⟩ [.bool x.every, .int .i64 x.begin_, .slice none 0 0] from ⟨_, rfl, h64, Zah.nil _ _ _ _ _⟩);have HNO : Hd (∀ y, (fun _ : Nat => False) y → ¬ Gl y) := zh (fun _ h => h.elim);clear hX;obtain ⟨c0, c1, c2, c3, c4, c5⟩ := cz6 HB.o;have fc0 := fz HB.o;go_enter Tryz.func162, Tryz.ntmps162
 go_wp2_with (at_builtin; refine Zbd Zcb rfl _ _ 62 rfl TSl iI (.agg #[.bool false, .int .i64 0, .slice none 0 0]) 40 Tryz.underlying62 hiI hz0 hz1 hz2 rfl rfl HROW.o ⟨wb.heap.size, 0, none⟩ 1 rfl ⟨x.every, x.begin_, []⟩ [.bool x.every, .int .i64 x.begin_, .slice none 0 0] (Zgi wb [.bool x.every, .int .i64 x.begin_, .slice none 0 0] TSl) (by intro u hu; simp at hu; rcases hu with rfl | rfl | rfl <;> rfl) HEL.o HNO.o (by omega) (by decide) ?_; intro v2 Y hrow hkp hb0; obtain ⟨A2, c2, hv2, -⟩ := id hrow; rw [show (ls ++ [(⟨x.every, x.begin_, []⟩ : Zak)]).length = ls.length + 1 by simp] at hv2; subst hv2; have hpush := HSK.o.pushL HX.o hrow hkp; have HPU := zh hpush; have hYB := (hkp.same MB HSK.o.nM.2.1 (Nat.lt_of_lt_of_le (Zc HSK.o.blk) HX.o.size)).trans ((HX.o.block MB (Zc HSK.o.blk)).trans HSK.o.blk); have y0 := cz4 hYB; have fy0 := fz hYB; have HTN := zh (Tn.set (P := fun b => b = MB ∨ Gc b ∨ Gl b ∨ Gb b) (Tn.trans (R := fun b => b = MB ∨ Gc b ∨ Gl b ∨ Gb b) (Tn.later (P := fun _ => False) HX.o) (Tn.mk (P := Gl) hkp hb0) (fun _ h => h.elim) (fun b _ hb => .inr (.inr (.inl hb)))) (c := MB) (.inl rfl) 1 (.slice A2 (ls.length + 1) c2)); have HXS := zh HX.o.size; obtain ⟨wp, hwp⟩ : ∃ z, Y.setCell ⟨MB, 1, none⟩ (.slice A2 (ls.length + 1) c2) = z := ⟨_, rfl⟩; rw [hwp] at hpush HTN HPU; obtain ⟨G1, hs1⟩ := SS.of HGK.o HPU.o HTN.o (fun b hb => by rcases hb with h | ⟨h | h | h, -⟩ | h; exact .inl (.inl h); exact .inl (.inr (.inl h)); exact h.elim; exact .inr (Nat.le_trans HXS.o (Nat.le_of_eq h.symm)); exact .inl (.inr (.inr h))); have HS1 := zh (HSb.o.trans hs1); have HBk := zh (HS1.o.tn.has HB.o hNP); obtain ⟨c0, c1, c2, c3, c4, c5⟩ := cz6 HBk.o; have fc0 := fz HBk.o; clear HBk)
 have HP1 := zh (CxP.move HP.o (HS1.o.keeps' HLb.o HP.o.fr) (Nat.le_trans HLb.o.size HS1.o.tn.size) (HS1.o.off HLb.o HP.o.fr HP.o.flt));have HS1h := zh (show SS wp wp MB G1 G1 L (stL (some x) ls []) m (stB (some x) bs) from HS1.o.here);refine (Zc8 n IH wp MB G1 L (some x) ls bs [] F c A k m B fail HS1h HP1 hf).mono ?_;rintro e w2 ⟨rfl, G2, hs2⟩;have HS2 := zh ((HS.o.here.later HLb.o).trans (HS1.o.trans hs2));clear hs2;go_wp2_with fail;go_ret;exact ⟨rfl, G2, HS2.o⟩
theorem Zmd (MB : Nat) (G : Nat → Prop) (L : List Ze) (ls : List Zak) (y : Zak) (m : Nat) (bs : List Int) (ex : List Nat) (w : World) (h : SS w w MB G G L (ls ++ [y]) m bs) (hy : y.outs = ex.map Int.ofNat) (hex : ex.length ≤ 100000) (hin : ∀ i ∈ ex, i < L.length) (hl : L.length ≤ 134217730) :
  Calls Tryz.prog 163 #[.pointer (some ⟨MB, 0, none⟩)] w fun e w' => e = .returned (.tuple #[]) ∧ ∃ G', SS w w' MB G G' (Zbz 0 (L.length : Int) ex L) ls m bs := by
 have HS := zh h;have HIN := zh hin;clear h hin;obtain ⟨Gc, Gl, Gb, cv, lv, bv, hs, hG⟩ := HS.o.st;have HSK := zh hs;have HGK := zh hG;obtain ⟨lb, lc, Fi, vo, rfl, hlc, hlm, hco, hro, hFi, hpop⟩ := hs.popL;obtain ⟨Ao, co, rfl, hoc, hom, -⟩ := id hro;have HRO := zh hro;have HFI := zh hFi;obtain ⟨_, _, el, hlc', -, hel⟩ := hs.loops;simp only [List.length_append, List.length_singleton] at el hlc';cases el;obtain ⟨_, _, _, _, el, -, hlb, -⟩ := hel (by omega);cases el;have fco := frozen_of_row _ lb (ls.length * 3 + 2) _ _ hlb;have b0 := cz4 hs.blk;have fb0 := fz hs.blk;have hol : y.outs.length = ex.length := by rw [hy]; simp
 rw [hol] at hco;obtain ⟨wA, hwA⟩ : ∃ z, w.setCell ⟨MB, 1, none⟩ (.slice (some ⟨lb, 0, none⟩) ls.length lc) = z := ⟨_, rfl⟩;have hsA := SS.of (x := wA) HGK.o (by rw [← hwA]; exact hpop) (by rw [← hwA]; exact Tn.set (Tn.refl _ _) (.inl rfl) _ _) (fun b hb => .inl (by
  rcases hb with h | h | h
  ·exact .inl h
  ·exact .inr (.inl h.1)
  ·exact .inr (.inr h)))
 have hA : SS wA wA MB (fun b => Gc b ∨ (Gl b ∧ ¬ Fi b) ∨ Gb b) (fun b => Gc b ∨ (Gl b ∧ ¬ Fi b) ∨ Gb b) L ls m bs := ⟨⟨_, _, _, _, _, _, by rw [← hwA]; exact hpop, fun _ h => h⟩, Tn.refl _ _, fun _ h => .inl h, by rw [← hwA]; exact hpop.lt⟩;have hGA : SS w wA MB G (fun b => Gc b ∨ (Gl b ∧ ¬ Fi b) ∨ Gb b) L ls m bs := ⟨hA.st, by
  refine (show Tn (fun b => b = MB) w wA from by rw [← hwA]; exact Tn.set (P := fun b => b = MB) (Tn.refl _ _) (c := MB) rfl 1 _).mono fun b _ hb => .inl hb, fun b hb => .inl (HGK.o b (by
  rcases hb with h | h | h
  ·exact .inl h
  ·exact .inr (.inl h.1)
  ·exact .inr (.inr h))), hA.lt⟩
 have HA := zh hA;have HGA := zh hGA;have HROA := zh (show Zah Zc1 1 Zco Fi wA y.outs (.slice Ao y.outs.length co) from hro.keep Zap.is (fun _ h => h) (by rw [← hwA]; exact (Zb.refl _ _).set (fun e => (hFi _ e).1 rfl) _ _));have tn : IntKind.i64.wrap (((ls.length + 1 : Nat) : Int) - 1) = (ls.length : Int) := by unfold maxLen at hlm; rw [IntWalk.i64_in _ (by omega)]; omega
 have tn0 : IntKind.i64.wrap (ls.length : Int) = (ls.length : Int) := by unfold maxLen at hlm; rw [IntWalk.i64_in _ (by omega)]
 have hnl : (ls.length : Int) < ((ls.length + 1 : Nat) : Int) := by omega
 have hnc : (ls.length : Int) ≤ (lc : Int) := by omega
 clear hs hG hlb hel hpop hsA hA hGA hro hFi;go_enter Tryz.func163, Tryz.ntmps163;go_wp2_with fail
 go_loopw [4] (fun iv wr => ∃ j : Nat, j ≤ ex.length ∧ iv = .int .i64 j ∧ SS wA wr MB (fun b => Gc b ∨ (Gl b ∧ ¬ Fi b) ∨ Gb b) (fun b => Gc b ∨ (Gl b ∧ ¬ Fi b) ∨ Gb b) (Zbz 0 (L.length : Int) (ex.take j) L) ls m bs) (fun iv _ => ex.length - (intOf iv).toNat)
 case atStart => exact ⟨0, Nat.zero_le _, rfl, by simpa [Zbz] using HA.o⟩
 case round =>
  obtain ⟨j, hj, rfl, hs1⟩ := hrel;have HS1 := zh hs1;have HROW := zh (HROA.o.keep Zap.is (fun _ h => h) (hs1.keeps HFI.o));clear hs1
  by_cases hlt : j < ex.length
  ·obtain ⟨A2, c2, e2, _, _, hel⟩ := HROW.o.el Zap;cases e2;obtain ⟨b, o, cs, rfl, hF, hb, ⟨rfl, h64⟩, hc⟩ := hel j (by omega);have e0 := hc 0 _ rfl;simp only [Nat.mul_one, Nat.add_zero] at e0;have hlt' : (j : Int) < (ex.length : Int) := by omega
   have hz : y.outs[j]'(by omega) = ((ex[j] : Nat) : Int) := by simp only [hy, List.getElem_map]; rfl
   rw [hz] at e0;obtain ⟨zj, hzj⟩ : ∃ z, z = ex[j] := ⟨_, rfl⟩;have HZ := zh hzj;have hzl : zj < L.length := by rw [hzj]; exact HIN.o _ (List.getElem_mem _)
   rw [← hzj] at e0;clear hzj hz hc hel;go_wp2_with fail;refine (Zb9 MB _ _ _ _ _ zj _ HS1.o.here (by rw [Zbo]; exact hzl) (by rw [Zbo]; exact hl)).mono ?_;rintro e w2 ⟨rfl, hs2⟩;have HS2 := zh ((HS1.o.trans hs2).cast (show _ = Zbz 0 (L.length : Int) (ex.take (j + 1)) L by rw [List.take_succ_eq_append_getElem hlt, Zgx, Zbo, HZ.o, Nat.sub_zero]) rfl);clear hs2;go_wp2_with fail
   go_roundw
   case rel => exact ⟨j + 1, by omega, by go_num, HS2.o⟩
   case measure => simp [intOf]; omega
  ·obtain rfl : j = ex.length := by omega
   have HS2 := zh (HS1.o.cast (show _ = Zbz 0 (L.length : Int) ex L by rw [List.take_length]) rfl);go_wp2_with fail
   go_end0
   exact ⟨rfl, _, HGA.o.trans HS2.o⟩
theorem Zsr : (Tryz.prog.info? Zco).map (fun i => (i.zero, i.size, i.bytes)) = some (some (.int .i64 0), 1, 8) := by kernel_rfl
theorem Zqm (n : Nat) (IH : ∀ n', n = n' + 1 → Zci n') (w : World) (MB : Nat) (G : Nat → Prop) (L : List Ze) (lp : Option Zr) (ls : List Zak) (bs : List Int) (ex : List Nat) (F : Nat → Prop) (c : Zd) (A : Option Addr) (k m B : Nat) (HS : Hd (SS w w MB G G L (stL lp ls ex) m (stB lp bs))) (HP : Hd (CxP n w MB G L.length lp (ex.length + ls.length + bs.length) F c A k m B)) (ho : c.kind = 18) :
  Calls Tryz.prog 128 #[.pointer (some ⟨MB, 0, none⟩), c.val A k] w (Zb5 n w MB G L lp ls bs ex c m) := by
 have HO := zh ho;unfold Zd.val;have hlwb : Za w (w.alloc (.cells #[.int .i64 c.kind, .int .i64 c.op, .int .i64 c.aB, .int .i64 c.line, .string c.text, .slice A c.kids.length k] 68)) := (Za.refl _).alloc _;obtain ⟨wb, hwb⟩ : ∃ z, w.alloc (.cells #[.int .i64 c.kind, .int .i64 c.op, .int .i64 c.aB, .int .i64 c.line, .string c.text, .slice A c.kids.length k] 68) = z := ⟨_, rfl⟩;rw [hwb] at hlwb;have HB := zh (show wb.heap[w.heap.size]? = some (.cells #[.int .i64 c.kind, .int .i64 c.op, .int .i64 c.aB, .int .i64 c.line, .string c.text, .slice A c.kids.length k] 68 (0, 0)) by rw [← hwb]; exact heap_alloc_new _ _);have hNP : ¬ (w.heap.size = MB ∨ G w.heap.size) := by
  obtain ⟨_, _, _, _, _, _, hs, -⟩ := HS.o.st;rintro (h | h)
  ·have := HS.o.below; omega
  ·have := HS.o.lt _ h; omega
 have HSb := zh ((HS.o.later hlwb).here);have HLb := zh hlwb;have hn3 := HP.o.cv.n3;have hmb := HP.o.mb;have hlb := HP.o.lb;have hbB := HP.o.bB;have hmul : Z0 c * B = Zx c.kids * B + B := by rw [Zq c, Nat.add_mul, Nat.one_mul]
 have tm1 : IntKind.i64.wrap ((m : Int) + 1) = ((m + 1 : Nat) : Int) := by rw [IntWalk.i64_in _ (by omega)]; rfl
 have tm0 : IntKind.i64.wrap (m : Int) = (m : Int) := IntWalk.i64_in _ (by omega);have hkn : 2 ≤ c.kids.length := by have := HP.o.ok.2.1; rw [ho] at this; exact this
 obtain ⟨n', rfl⟩ := HP.o.cv.lev (i := 0) (by omega);obtain ⟨n, rfl⟩ : ∃ z, z = n' := ⟨_, rfl⟩;obtain ⟨kb, ko, B0, q0, rfl, -⟩ := CAt.kid HP.o.cv.kids (i := 0) (by omega);have hkn2 : (2 : Int) ≤ (c.kids.length : Int) := by omega
 have hcnt := Ze3 (c := c) hkn;have hmu := Zh2 (M := B) hcnt;obtain ⟨c0, c1, c2, c3, c4, c5⟩ := cz6 HB.o;have fc0 := fz HB.o;rw [ho] at c0;clear ho;obtain ⟨l0s, hl0s⟩ : ∃ z, z = stL lp ls ex := ⟨_, rfl⟩;obtain ⟨b0s, hb0s⟩ : ∃ z, z = stB lp bs := ⟨_, rfl⟩;have hl0n : l0s.length ≤ ls.length + 1 := by rw [hl0s]; unfold stL; split <;> simp
 have hb0n : b0s.length ≤ bs.length + 1 := by rw [hb0s]; unfold stB; split <;> simp
 have HSb' := HSb;rw [← hl0s, ← hb0s] at HSb';have HL0S := zh hl0s;have HB0S := zh hb0s;clear hl0s hb0s;have hexb := HP.o.exb;have hcnt0 := Zq c;obtain ⟨Gc, Gl, Gb, cv, lv, bv, hs, hG⟩ := HSb'.o.st;have HSK := zh hs;have HGK := zh hG;have b0 := cz4 hs.blk;have fb0 := fz hs.blk;clear hs hG;obtain ⟨Ab, cb, rfl, hbc, hbm, -⟩ := id HSK.o.base;obtain ⟨iI, hiI, hz0, hz1, hz2⟩ := info_parts Zsr;go_enter Tryz.func128, Tryz.ntmps128;go_upto_region 1 with (fail);refine Zhe [10, 11, 12, 13] [0] (fun z => z.heap[MB]? = some (.cells #[cv, lv, .int .i64 (m : Nat), .slice Ab b0s.length cb] TSt (0, 0))) (by kernel_rfl) (fun W1 hW1 => ?_);have hlW : Za wb W1 := by rw [hW1]; exact (Za.refl _).drew
 clear hW1 b0 fb0 c0 c1 c2 c3 c4 c5 fc0;have HSS := zh (show W1.heap[MB]? = some (.cells #[cv, lv, .int .i64 (m : Nat), .slice Ab b0s.length cb] TSt (0, 0)) from (hlW.block _ (Zc HSK.o.blk)).trans HSK.o.blk);have HKW := zh (HSK.o.later hlW);have HLW1 := zh hlW;clear hlW;refine Zk3 0 (some 7) (v := ?_) rfl rfl (by kernel_rfl) (fun _ _ _ h => h) rfl (fun x => ?_) ?_;rotate_left
 ·go_simp;first|done|with_reducible rfl
 simp only [Act.put, nA, nB, nC];refine tV 1 8 (v := ?_) rfl rfl HSS.o (fun x hx => ?_) ?_;rotate_left
 ·go_simp;first|done|with_reducible rfl
 simp only [Act.put, nA, nB, nC];refine tV 2 9 (v := ?_) rfl rfl HSS.o (fun x hx => ?_) ?_;rotate_left
 ·go_simp;first|done|with_reducible rfl
 simp only [Act.put, nA, nB, nC];refine tV 3 10 (v := ?_) rfl rfl HSS.o (fun x hx => ?_) ?_;rotate_left
 ·go_simp;first|done|with_reducible rfl
 simp only [Act.put, nA, nB, nC];refine tV 4 11 (v := ?_) rfl rfl HSS.o (fun x hx => ?_) ?_;rotate_left
 ·have hx1 := hx; have b0 := cz4 hx1; have fb0 := fz hx1; go_simp; first|done|with_reducible rfl
 simp only [Act.put, nA, nB, nC];refine tV 5 12 (v := ?_) rfl rfl HSS.o (fun x hx => ?_) ?_;rotate_left
 ·go_simp;first|done|with_reducible rfl
 simp only [Act.put, nA, nB, nC];refine tV 6 13 (v := ?_) rfl rfl HSS.o (fun x hx => ?_) ?_;rotate_left
 ·go_simp;first|done|with_reducible rfl
 simp only [Act.put, nA, nB, nC];refine tV 7 14 (v := ?_) rfl rfl HSS.o (fun x hx => ?_) ?_;rotate_left
 ·go_simp;first|done|with_reducible rfl
 simp only [Act.put, nA, nB, nC];refine tV 8 15 (v := ?_) rfl rfl HSS.o (fun x hx => ?_) ?_;rotate_left
 ·have hx1 := hx; have b0 := cz4 hx1; have fb0 := fz hx1; go_simp; first|done|with_reducible rfl
 simp only [Act.put, nA, nB, nC];refine Zf7 9 (by kernel_rfl) rfl rfl ?_;have hX : Za W1 (W1.alloc (.cells #[.int .i64 (m : Int)] Zco)) := (Za.refl _).alloc _;have HX := zh hX;have HROW := zh (HKW.o.base.keep Zap.is (fun _ h => h) (Zb.later hX));have HEL := zh (show Zc1 (fun _ => False) (W1.alloc (.cells #[.int .i64 (m : Int)] Zco)) (m : Int) [.int .i64 (m : Int)] from ⟨rfl, by unfold Zi; omega⟩);have HNO : Hd (∀ y, (fun _ : Nat => False) y → ¬ Gb y) := zh (fun _ h => h.elim);have HSS := zh (show (W1.alloc (.cells #[.int .i64 (m : Int)] Zco)).heap[MB]? = some (.cells #[cv, lv, .int .i64 (m : Nat), .slice Ab b0s.length cb] TSt (0, 0)) from (hX.block _ (Zc HSS.o)).trans HSS.o);clear hX;go_wp2_with fail;refine ⟨HSS.o, ?_⟩;refine Zij [_, _, _, _] (by kernel_rfl) rfl rfl ?_;simp only [List.getElem_toArray, List.getElem_cons_succ, List.getElem_cons_zero]
 go_wp2_with (at_builtin; refine Zbd Zap rfl _ _ 63 rfl Zco iI (.int .i64 0) 8 Tryz.underlying63 hiI hz0 hz1 hz2 rfl rfl HROW.o ⟨W1.heap.size, 0, none⟩ 1 rfl (m : Int) [.int .i64 (m : Int)] (Zgi W1 [.int .i64 (m : Int)] Zco) (by intro u hu; simp at hu; rcases hu with rfl; rfl) HEL.o HNO.o (by omega) (by decide) ?_; intro v2 Y hrow hkp hb0; obtain ⟨A2, c2, hv2, -⟩ := id hrow; rw [show (b0s ++ [(m : Int)]).length = b0s.length + 1 by simp] at hv2; subst hv2; have hpush := HKW.o.pushB HX.o hrow hkp; have HPU := zh hpush; have hYB := (hkp.same MB HKW.o.nM.2.2 (Zc HSS.o)).trans HSS.o; have y0 := cz4 hYB; have fy0 := fz hYB; have HTN := zh (Tn.set (P := fun b => b = MB ∨ Gc b ∨ Gl b ∨ Gb b) (Tn.trans (R := fun b => b = MB ∨ Gc b ∨ Gl b ∨ Gb b) (Tn.later (P := fun _ => False) HX.o) (Tn.mk (P := Gb) hkp hb0) (fun _ h => h.elim) (fun b _ hb => .inr (.inr (.inr hb)))) (c := MB) (.inl rfl) 3 (.slice A2 (b0s.length + 1) c2)); have HXS := zh HX.o.size; obtain ⟨wp, hwp⟩ : ∃ z, Y.setCell ⟨MB, 3, none⟩ (.slice A2 (b0s.length + 1) c2) = z := ⟨_, rfl⟩; rw [hwp] at hpush HTN HPU; obtain ⟨G1, hs1⟩ := SS.of HGK.o HPU.o HTN.o (fun b hb => by rcases hb with h | h | ⟨h | h | h, -⟩; exact .inl (.inl h); exact .inl (.inr (.inl h)); exact .inl (.inr (.inr h)); exact h.elim; exact .inr (Nat.le_trans HXS.o (Nat.le_of_eq h.symm))); have HS1 := zh (HSb'.o.trans ((HSb'.o.here.later HLW1.o).trans (SS.trans (show SS W1 W1 MB G G L l0s m b0s from (HSb'.o.later HLW1.o).here) hs1))); have HBk := zh (HS1.o.tn.has HB.o hNP); obtain ⟨c0, c1, c2, c3, c4, c5⟩ := cz6 HBk.o; have fc0 := fz HBk.o; rw [HO.o] at c0; clear HBk hrow hkp hb0)
 refine (Z8 MB G1 L _ _ _ 18 0 c.line wp HS1.o.here (by unfold Zi; omega) (by unfold Zi; omega) hn3 (by omega)).mono ?_;rintro e w2 ⟨rfl, G2, hs⟩;replace hs := HS1.o.trans hs;clear c0 c1 c2 c3 c4 c5 fc0;obtain ⟨L2, hL⟩ : ∃ z, z = L ++ [Zg 18 0 c.line] := ⟨_, rfl⟩;rw [← hL] at hs;have HL2 := zh (show L2 = L ++ ([Zg 18 0 c.line]) by rw [hL]; try simp [Zg]);have HN2 := zh (show L2.length = L.length + 1 by rw [hL]; simp; try omega);have HS2 := zh hs;clear hs hL;clear hwp y0 fy0;have HBk := zh (HS2.o.tn.has HB.o hNP);obtain ⟨c0, c1, c2, c3, c4, c5⟩ := cz6 HBk.o;have fc0 := fz HBk.o;clear HBk;obtain ⟨kb3, ko3, Bk3, q3, eA, hca, HE3, hlen3⟩ := HP.o.sub (i := 0) (m1 := m + 1) (lp1 := none) (w1 := w2) (MB1 := MB) (G1 := G2) (e1 := [].length + (l0s).length + ((b0s ++ [(m : Int)])).length) (l1 := L2.length + 1) (by omega) (Nat.le_trans HLb.o.size HS2.o.tn.size) (HS2.o.keeps' HLb.o HP.o.fr) (HS2.o.off HLb.o HP.o.fr HP.o.flt) (by rw [HO.o]; simp [Zm]) (by omega) (fun x hx => by simp at hx) (by have := HP.o.exb; have := Zq c; simp [stL, stB]; omega) (by have := HN2.o; omega);cases eA;have d0 := hca.c0;have d1 := hca.c1;have d2 := hca.c2;have d3 := hca.c3;have d4 := hca.c4;have d5 := hca.c5;simp only [Nat.zero_mul, Nat.add_zero, Nat.reduceMul, Nat.add_assoc, Nat.reduceAdd] at d0 d1 d2 d3 d4 d5;clear hca;go_wp2_with fail;refine (Zc8 _ (IH _ rfl) w2 MB G2 L2 none l0s (b0s ++ [(m : Int)]) [] F (c.kid 0) Bk3 q3 (m) B 0 (zh HS2.o.here) HE3 (by unfold Zi; omega)).mono ?_
 rintro e w3 ⟨rfl, G3, hs⟩;replace hs := HS2.o.trans hs;rw [HN2.o] at hs;have hq3 := hlen3 (L.length + 1 + 1);clear hlen3 d0 d1 d2 d3 d4 d5;obtain ⟨r3, hr⟩ : ∃ z, z = cg (n + 1) (c.kid 0) (m + 1) (none) (L.length + 1 + 1) := ⟨_, rfl⟩;rw [← hr] at hs hq3;have HR3 := zh hr;have hxl3 : r3.2.length ≤ Z0 (c.kid 0) := by rw [hr]; exact Z1 _ _ _ _ _ HE3.o.ok
 clear hr;clear c0 c1 c2 c3 c4 c5 fc0;obtain ⟨L3, hL⟩ : ∃ z, z = L2 ++ (Zg 13 0 (c.kid 0).line :: (r3.1 ++ [Zg 14 0 (c.kid 0).line])) := ⟨_, rfl⟩;rw [← hL] at hs;have HL3 := zh (show L3 = L ++ ([Zg 18 0 c.line] ++ ([Zg 13 0 (c.kid 0).line] ++ (r3.1 ++ ([Zg 14 0 (c.kid 0).line])))) by rw [hL, HL2.o]; try simp [Zg]);have HN3 := zh (show L3.length = L.length + 1 + r3.1.length + 2 by have := HN2.o; rw [hL]; simp; try omega);have HS3 := zh hs;clear hs hL;have HBk := zh (HS3.o.tn.has HB.o hNP);obtain ⟨c0, c1, c2, c3, c4, c5⟩ := cz6 HBk.o;have fc0 := fz HBk.o;clear HBk;obtain ⟨kb4, ko4, Bk4, q4, eA, hca, HE4, hlen4⟩ := HP.o.sub (i := 1) (m1 := m + 1) (lp1 := some (⟨false, m, L.length⟩ : Zr)) (w1 := w3) (MB1 := MB) (G1 := G3) (e1 := 0 + l0s.length + b0s.length) (l1 := L3.length + 1) (by omega) (Nat.le_trans HLb.o.size HS3.o.tn.size) (HS3.o.keeps' HLb.o HP.o.fr) (HS3.o.off HLb.o HP.o.fr HP.o.flt) (by rw [HO.o]; simp [Zm]) (by omega) (fun x hx => by cases hx; simp) (by omega) (by have := HN2.o; have := HN3.o; omega);cases eA;have d0 := hca.c0;have d1 := hca.c1;have d2 := hca.c2;have d3 := hca.c3;have d4 := hca.c4;have d5 := hca.c5;simp only [Nat.zero_mul, Nat.add_zero, Nat.reduceMul, Nat.add_assoc, Nat.reduceAdd] at d0 d1 d2 d3 d4 d5;clear hca;go_wp2_with fail;refine (Zmc _ (IH _ rfl) w3 MB G3 L3 (⟨false, m, L.length⟩ : Zr) l0s b0s F (c.kid 1) Bk4 q4 (m) B ((L.length : Nat) : Int) (zh HS3.o.here) HE4 (by unfold Zi; omega) (by show L.length ≤ _; omega)).mono ?_;rintro e w4 ⟨rfl, G4, hs⟩
 replace hs := HS3.o.trans hs;rw [HN3.o] at hs;have hq4 := hlen4 (L.length + 1 + r3.1.length + 2 + 1);clear hlen4 d0 d1 d2 d3 d4 d5;obtain ⟨r4, hr⟩ : ∃ z, z = cg (n + 1) (c.kid 1) (m + 1) (some (⟨false, m, L.length⟩ : Zr)) (L.length + 1 + r3.1.length + 2 + 1) := ⟨_, rfl⟩;rw [← hr] at hs hq4;have HR4 := zh hr;have hxl4 : r4.2.length ≤ Z0 (c.kid 1) := by rw [hr]; exact Z1 _ _ _ _ _ HE4.o.ok
 have HXR := zh (show ∀ i ∈ r4.2, L.length + 1 + r3.1.length + 2 + 1 ≤ i ∧ i < L.length + 1 + r3.1.length + 2 + 1 + r4.1.length from fun i hi => by rw [hr] at hi ⊢; exact Zdk _ _ _ _ _ i hi);clear hr;clear c0 c1 c2 c3 c4 c5 fc0;obtain ⟨L4, hL⟩ : ∃ z, z = L3 ++ (Zg 13 ((L.length : Nat) : Int) (c.kid 1).line :: (r4.1 ++ [Zg 14 0 (c.kid 1).line])) := ⟨_, rfl⟩;rw [← hL] at hs;have HL4 := zh (show L4 = L ++ ([Zg 18 0 c.line] ++ ([Zg 13 0 (c.kid 0).line] ++ (r3.1 ++ ([Zg 14 0 (c.kid 0).line] ++ ([Zg 13 ((L.length : Nat) : Int) (c.kid 1).line] ++ (r4.1 ++ ([Zg 14 0 (c.kid 1).line]))))))) by rw [hL, HL3.o]; try simp [Zg]);have HN4 := zh (show L4.length = L.length + 1 + r3.1.length + 2 + r4.1.length + 2 by have := HN3.o; rw [hL]; simp; try omega);have HS4 := zh hs;clear hs hL;have HBk := zh (HS4.o.tn.has HB.o hNP);obtain ⟨c0, c1, c2, c3, c4, c5⟩ := cz6 HBk.o;have fc0 := fz HBk.o;clear HBk;go_wp2_with fail;refine (Z8 MB G4 L4 _ _ _ 15 ((L.length : Nat) : Int) c.line w4 HS4.o.here (by unfold Zi; omega) (by unfold Zi; omega) hn3 (by have := HN4.o; omega)).mono ?_;rintro e w5 ⟨rfl, G5, hs⟩;replace hs := HS4.o.trans hs;clear c0 c1 c2 c3 c4 c5 fc0;obtain ⟨L5, hL⟩ : ∃ z, z = L4 ++ [Zg 15 ((L.length : Nat) : Int) c.line] := ⟨_, rfl⟩;rw [← hL] at hs;have HL5 := zh (show L5 = L ++ ([Zg 18 0 c.line] ++ ([Zg 13 0 (c.kid 0).line] ++ (r3.1 ++ ([Zg 14 0 (c.kid 0).line] ++ ([Zg 13 ((L.length : Nat) : Int) (c.kid 1).line] ++ (r4.1 ++ ([Zg 14 0 (c.kid 1).line] ++ ([Zg 15 ((L.length : Nat) : Int) c.line])))))))) by rw [hL, HL4.o]; try simp [Zg])
 have HN5 := zh (show L5.length = L.length + 1 + r3.1.length + 2 + r4.1.length + 2 + 1 by have := HN4.o; rw [hL]; simp; try omega);have HS5 := zh hs;clear hs hL;have HBk := zh (HS5.o.tn.has HB.o hNP);obtain ⟨c0, c1, c2, c3, c4, c5⟩ := cz6 HBk.o;have fc0 := fz HBk.o;clear HBk;go_wp2_with fail;refine (Zb9 MB G5 L5 _ _ _ L2.length w5 HS5.o.here (by have := HN2.o; have := HN3.o; have := HN4.o; have := HN5.o; omega) (by have := HN5.o; omega)).mono ?_;rintro e w6 ⟨rfl, hs⟩;replace hs := HS5.o.trans hs;clear c0 c1 c2 c3 c4 c5 fc0;have hpt := Zav (LL := L5) (A := L ++ ([Zg 18 0 c.line])) (B := r3.1 ++ ([Zg 14 0 (c.kid 0).line] ++ ([Zg 13 ((L.length : Nat) : Int) (c.kid 1).line] ++ (r4.1 ++ ([Zg 14 0 (c.kid 1).line] ++ ([Zg 15 ((L.length : Nat) : Int) c.line])))))) (op := 13) (a0 := 0) (l := (c.kid 0).line) (i := L2.length) (k := L.length + 1 + r3.1.length + 2 + r4.1.length + 2 + 1) (by rw [HL5.o]; simp) (by have := HN2.o; have := HN3.o; have := HN4.o; have := HN5.o; simp; try omega) HN5.o;rw [hpt] at hs;obtain ⟨L6, hL⟩ : ∃ z, z = L ++ ([Zg 18 0 c.line]) ++ Zg 13 ((L.length + 1 + r3.1.length + 2 + r4.1.length + 2 + 1 : Nat) : Int) (c.kid 0).line :: (r3.1 ++ ([Zg 14 0 (c.kid 0).line] ++ ([Zg 13 ((L.length : Nat) : Int) (c.kid 1).line] ++ (r4.1 ++ ([Zg 14 0 (c.kid 1).line] ++ ([Zg 15 ((L.length : Nat) : Int) c.line])))))) := ⟨_, rfl⟩;rw [← hL] at hs;have HL6 := zh (show L6 = L ++ ([Zg 18 0 c.line] ++ ([Zg 13 ((L.length + 1 + r3.1.length + 2 + r4.1.length + 2 + 1 : Nat) : Int) (c.kid 0).line] ++ (r3.1 ++ ([Zg 14 0 (c.kid 0).line] ++ ([Zg 13 ((L.length : Nat) : Int) (c.kid 1).line] ++ (r4.1 ++ ([Zg 14 0 (c.kid 1).line] ++ ([Zg 15 ((L.length : Nat) : Int) c.line])))))))) by rw [hL]; simp)
 have HN6 := zh (show L6.length = L.length + 1 + r3.1.length + 2 + r4.1.length + 2 + 1 by rw [hL, ← hpt, Zp, HN5.o]);have HS6 := zh hs;clear hs hL hpt;have HBk := zh (HS6.o.tn.has HB.o hNP);obtain ⟨c0, c1, c2, c3, c4, c5⟩ := cz6 HBk.o;have fc0 := fz HBk.o;clear HBk;go_wp2_with fail;refine (Z8 MB G5 L6 _ _ _ 16 0 c.line w6 HS6.o.here (by unfold Zi; omega) (by unfold Zi; omega) hn3 (by have := HN6.o; omega)).mono ?_;rintro e w7 ⟨rfl, G7, hs⟩;replace hs := HS6.o.trans hs;clear c0 c1 c2 c3 c4 c5 fc0;obtain ⟨L7, hL⟩ : ∃ z, z = L6 ++ [Zg 16 0 c.line] := ⟨_, rfl⟩;rw [← hL] at hs;have HL7 := zh (show L7 = L ++ ([Zg 18 0 c.line] ++ ([Zg 13 ((L.length + 1 + r3.1.length + 2 + r4.1.length + 2 + 1 : Nat) : Int) (c.kid 0).line] ++ (r3.1 ++ ([Zg 14 0 (c.kid 0).line] ++ ([Zg 13 ((L.length : Nat) : Int) (c.kid 1).line] ++ (r4.1 ++ ([Zg 14 0 (c.kid 1).line] ++ ([Zg 15 ((L.length : Nat) : Int) c.line] ++ ([Zg 16 0 c.line]))))))))) by rw [hL, HL6.o]; try simp [Zg]);have HN7 := zh (show L7.length = L.length + 1 + r3.1.length + 2 + r4.1.length + 2 + 1 + 1 by have := HN6.o; rw [hL]; simp; try omega);have HS7 := zh hs;clear hs hL;have HBk := zh (HS7.o.tn.has HB.o hNP);obtain ⟨c0, c1, c2, c3, c4, c5⟩ := cz6 HBk.o;have fc0 := fz HBk.o;clear HBk;have hs : SS wb w7 MB G G7 L7 (l0s ++ [⟨false, ((L.length : Nat) : Int), r4.2.map Int.ofNat⟩]) m (b0s ++ [(m : Int)]) := HS7.o;have HSQ := zh hs;obtain ⟨Gd, Gm, Gn, dv, mv, nv, hs, hG⟩ := hs.st;have HSD := zh hs;have HGD := zh hG;obtain ⟨An, cn, en, hnc, hnm, -⟩ := id hs.base
 rw [show (b0s ++ [(m : Int)]).length = b0s.length + 1 by simp] at en hnc;subst en;have tbn : IntKind.i64.wrap (((b0s.length + 1 : Nat) : Int) - 1) = (b0s.length : Int) := by rw [IntWalk.i64_in _ (by omega)]; omega
 have tbn0 : IntKind.i64.wrap (b0s.length : Int) = (b0s.length : Int) := by rw [IntWalk.i64_in _ (by omega)]
 have hnn : (b0s.length : Int) ≤ (cn : Int) := by omega
 clear hs hG;go_upto_region 17 with (fail);refine Z3 [14] [] (by kernel_rfl) (fun W8 hW8 => ?_);have hlW : Za w7 W8 := by rw [hW8]; exact (Za.refl _).drew
 clear hW8;have HSW := zh (HSD.o.later hlW);have HLW8 := zh hlW;clear hlW;refine tU 0 94 (v := ?_) rfl rfl (fun x hx => ?_) ?_;rotate_left
 ·go_simp;first|done|with_reducible rfl
 simp only [Act.put, nA, nB, nC];refine tU 1 95 (v := ?_) rfl rfl (fun x hx => ?_) ?_;rotate_left
 ·go_simp;first|done|with_reducible rfl
 simp only [Act.put, nA, nB, nC];refine tU 2 96 (v := ?_) rfl rfl (fun x hx => ?_) ?_;rotate_left
 ·go_simp;first|done|with_reducible rfl
 simp only [Act.put, nA, nB, nC];refine tU 3 97 (v := ?_) rfl rfl (fun x hx => ?_) ?_;rotate_left
 ·go_simp;first|done|with_reducible rfl
 simp only [Act.put, nA, nB, nC];refine tU 4 98 (v := ?_) rfl rfl (fun x hx => ?_) ?_;rotate_left
 ·have hxb := (hx.block _ (Zc HSW.o.blk)).trans HSW.o.blk; have b0 := cz4 hxb; have fb0 := fz hxb; go_simp; first|done|with_reducible rfl
 simp only [Act.put, nA, nB, nC];refine tU 5 99 (v := ?_) rfl rfl (fun x hx => ?_) ?_;rotate_left
 ·go_simp;first|done|with_reducible rfl
 simp only [Act.put, nA, nB, nC];refine tU 6 100 (v := ?_) rfl rfl (fun x hx => ?_) ?_;rotate_left
 ·go_simp;first|done|with_reducible rfl
 simp only [Act.put, nA, nB, nC];refine tU 7 101 (v := ?_) rfl rfl (fun x hx => ?_) ?_;rotate_left
 ·go_simp;first|done|with_reducible rfl
 simp only [Act.put, nA, nB, nC];refine tU 8 102 (v := ?_) rfl rfl (fun x hx => ?_) ?_;rotate_left
 ·have hxb := (hx.block _ (Zc HSW.o.blk)).trans HSW.o.blk; have b0 := cz4 hxb; have fb0 := fz hxb; go_simp; first|done|with_reducible rfl
 simp only [Act.put, nA, nB, nC];refine tU 9 103 (v := ?_) rfl rfl (fun x hx => ?_) ?_;rotate_left
 ·go_simp;first|done|with_reducible rfl
 simp only [Act.put, nA, nB, nC];refine tU 10 104 (v := ?_) rfl rfl (fun x hx => ?_) ?_;rotate_left
 ·go_simp;first|done|with_reducible rfl
 simp only [Act.put, nA, nB, nC];refine tU 11 105 (v := ?_) rfl rfl (fun x hx => ?_) ?_;rotate_left
 ·go_simp;first|done|with_reducible rfl|rw[if_neg (by omega)]|rw[if_pos (by omega)]
 simp only [Act.put, nA, nB, nC];refine tU 12 106 (v := ?_) rfl rfl (fun x hx => ?_) ?_;rotate_left
 ·go_simp;first|done|with_reducible rfl
 simp only [Act.put, nA, nB, nC];refine tU 13 107 (v := ?_) rfl rfl (fun x hx => ?_) ?_;rotate_left
 ·go_simp;first|done|with_reducible rfl
 simp only [Act.put, nA, nB, nC];refine Zag [_] (by kernel_rfl) rfl rfl ?_;simp only [List.getElem_toArray, List.getElem_cons_succ, List.getElem_cons_zero];have b0 := cz4 HSW.o.blk;have fb0 := fz HSW.o.blk;have hcut := HSW.o.cutB (n := b0s.length) (by simp) (A := An) (c := cn) (by simp);rw [show (b0s ++ [(m : Int)]).take b0s.length = b0s by simp] at hcut;obtain ⟨wq, hwq⟩ : ∃ z, W8.setCell ⟨MB, 3, none⟩ (.slice An b0s.length cn) = z := ⟨_, rfl⟩;rw [hwq] at hcut;have HSR := zh (HSQ.o.trans (SS.of0 HSQ.o.lt HGD.o hcut (by rw [← hwq]; exact Tn.set (Tn.later HLW8.o) (.inl rfl) _ _)));clear hcut;go_wp2_with fail;refine (Zmd MB G7 L7 l0s _ m b0s r4.2 wq HSR.o.here rfl (by omega) (fun i hi => by have := (HXR.o i hi).2; have := HN2.o; have := HN3.o; have := HN4.o; have := HN5.o; have := HN6.o; have := HN7.o; omega) (by have := HN2.o; have := HN3.o; have := HN4.o; have := HN5.o; have := HN6.o; have := HN7.o; omega)).mono ?_;rintro e wz ⟨rfl, Gz, hs⟩;have hfin := (HS.o.here.later HLb.o).trans (HSR.o.trans hs);clear hs;rw [HL0S.o, HB0S.o] at hfin;have HFIN := zh hfin;clear hfin;go_wp2_with fail
 go_end0
 refine ⟨rfl, Gz, ?_⟩;show SS w wz MB G Gz (L ++ (Zk (cg (n + 1)) c m lp L.length).1) (stL lp ls (ex ++ (Zk (cg (n + 1)) c m lp L.length).2)) m (stB lp bs);rw [Zem HO.o];simp only [bnd, Zaq];simp only [← HR3.o, ← Nat.add_assoc, ← HR4.o];refine HFIN.o.cast ?_ (by simp);refine (Zf6 (A := L) HL7.o rfl (fun i hi => by have := (HXR.o i hi).1; omega)).trans ?_;rw [HN7.o];simp [Zg, Nat.add_assoc]
theorem Zss (n : Nat) (IH : ∀ n', n = n' + 1 → Zci n') (w : World) (MB : Nat) (G : Nat → Prop) (L : List Ze) (lp : Option Zr) (ls : List Zak) (bs : List Int) (ex : List Nat) (F : Nat → Prop) (c : Zd) (A : Option Addr) (k m B : Nat) (HS : Hd (SS w w MB G G L (stL lp ls ex) m (stB lp bs))) (HP : Hd (CxP n w MB G L.length lp (ex.length + ls.length + bs.length) F c A k m B)) (ho : c.kind = 18) :
  Calls Tryz.prog 71 #[.pointer (some ⟨MB, 0, none⟩), c.val A k] w (Zb5 n w MB G L lp ls bs ex c m) := by
 have HO := zh ho;unfold Zd.val;have hlwb : Za w (w.alloc (.cells #[.int .i64 c.kind, .int .i64 c.op, .int .i64 c.aB, .int .i64 c.line, .string c.text, .slice A c.kids.length k] 68)) := (Za.refl _).alloc _;obtain ⟨wb, hwb⟩ : ∃ z, w.alloc (.cells #[.int .i64 c.kind, .int .i64 c.op, .int .i64 c.aB, .int .i64 c.line, .string c.text, .slice A c.kids.length k] 68) = z := ⟨_, rfl⟩;rw [hwb] at hlwb;have HB := zh (show wb.heap[w.heap.size]? = some (.cells #[.int .i64 c.kind, .int .i64 c.op, .int .i64 c.aB, .int .i64 c.line, .string c.text, .slice A c.kids.length k] 68 (0, 0)) by rw [← hwb]; exact heap_alloc_new _ _);have hNP : ¬ (w.heap.size = MB ∨ G w.heap.size) := by
  obtain ⟨_, _, _, _, _, _, hs, -⟩ := HS.o.st;rintro (h | h)
  ·have := HS.o.below; omega
  ·have := HS.o.lt _ h; omega
 have HSb := zh ((HS.o.later hlwb).here);have HLb := zh hlwb;have hn3 := HP.o.cv.n3;have hmb := HP.o.mb;have hlb := HP.o.lb;have hbB := HP.o.bB;have hmul : Z0 c * B = Zx c.kids * B + B := by rw [Zq c, Nat.add_mul, Nat.one_mul]
 have tm1 : IntKind.i64.wrap ((m : Int) + 1) = ((m + 1 : Nat) : Int) := by rw [IntWalk.i64_in _ (by omega)]; rfl
 have tm0 : IntKind.i64.wrap (m : Int) = (m : Int) := IntWalk.i64_in _ (by omega);obtain ⟨c0, c1, c2, c3, c4, c5⟩ := cz6 HB.o;have fc0 := fz HB.o;rw [ho] at c0;clear ho;have HVV := zh (show (Value.agg #[.int .i64 18, .int .i64 c.op, .int .i64 c.aB, .int .i64 c.line, .string c.text, .slice A c.kids.length k]) = c.val A k by unfold Zd.val; rw [HO.o]);go_enter Tryz.func71, Tryz.ntmps71;go_wp2_with fail;rw [HVV.o];refine (Zqm n IH wb MB G L lp ls bs ex F c A k m B (zh HSb.o) (zh (CxP.move HP.o (Zb.later HLb.o) HLb.o.size (HSb.o.off HLb.o HP.o.fr HP.o.flt))) HO.o).mono ?_;rintro e w1 ⟨rfl, G1, hs⟩;have HS1 := zh ((HS.o.here.later HLb.o).trans hs);clear hs;go_wp2_with fail
 go_end0
 exact ⟨rfl, G1, HS1.o⟩
theorem Zst : (Tryz.prog.info? Zco).map (fun i => (i.zero, i.size, i.bytes)) = some (some (.int .i64 0), 1, 8) := by kernel_rfl
theorem Zqn (n : Nat) (IH : ∀ n', n = n' + 1 → Zci n') (w : World) (MB : Nat) (G : Nat → Prop) (L : List Ze) (lp : Option Zr) (ls : List Zak) (bs : List Int) (ex : List Nat) (F : Nat → Prop) (c : Zd) (A : Option Addr) (k m B : Nat) (HS : Hd (SS w w MB G G L (stL lp ls ex) m (stB lp bs))) (HP : Hd (CxP n w MB G L.length lp (ex.length + ls.length + bs.length) F c A k m B)) (ho : c.kind = 19) :
  Calls Tryz.prog 128 #[.pointer (some ⟨MB, 0, none⟩), c.val A k] w (Zb5 n w MB G L lp ls bs ex c m) := by
 have HO := zh ho;unfold Zd.val;have hlwb : Za w (w.alloc (.cells #[.int .i64 c.kind, .int .i64 c.op, .int .i64 c.aB, .int .i64 c.line, .string c.text, .slice A c.kids.length k] 68)) := (Za.refl _).alloc _;obtain ⟨wb, hwb⟩ : ∃ z, w.alloc (.cells #[.int .i64 c.kind, .int .i64 c.op, .int .i64 c.aB, .int .i64 c.line, .string c.text, .slice A c.kids.length k] 68) = z := ⟨_, rfl⟩;rw [hwb] at hlwb;have HB := zh (show wb.heap[w.heap.size]? = some (.cells #[.int .i64 c.kind, .int .i64 c.op, .int .i64 c.aB, .int .i64 c.line, .string c.text, .slice A c.kids.length k] 68 (0, 0)) by rw [← hwb]; exact heap_alloc_new _ _);have hNP : ¬ (w.heap.size = MB ∨ G w.heap.size) := by
  obtain ⟨_, _, _, _, _, _, hs, -⟩ := HS.o.st;rintro (h | h)
  ·have := HS.o.below; omega
  ·have := HS.o.lt _ h; omega
 have HSb := zh ((HS.o.later hlwb).here);have HLb := zh hlwb;have hn3 := HP.o.cv.n3;have hmb := HP.o.mb;have hlb := HP.o.lb;have hbB := HP.o.bB;have hmul : Z0 c * B = Zx c.kids * B + B := by rw [Zq c, Nat.add_mul, Nat.one_mul]
 have tm1 : IntKind.i64.wrap ((m : Int) + 1) = ((m + 1 : Nat) : Int) := by rw [IntWalk.i64_in _ (by omega)]; rfl
 have tm0 : IntKind.i64.wrap (m : Int) = (m : Int) := IntWalk.i64_in _ (by omega);have hkn : 2 ≤ c.kids.length := by have := HP.o.ok.2.1; rw [ho] at this; exact this
 obtain ⟨n', rfl⟩ := HP.o.cv.lev (i := 0) (by omega);obtain ⟨n, rfl⟩ : ∃ z, z = n' := ⟨_, rfl⟩;obtain ⟨kb, ko, B0, q0, rfl, -⟩ := CAt.kid HP.o.cv.kids (i := 0) (by omega);have hkn2 : (2 : Int) ≤ (c.kids.length : Int) := by omega
 have hcnt := Ze3 (c := c) hkn;have hmu := Zh2 (M := B) hcnt;obtain ⟨c0, c1, c2, c3, c4, c5⟩ := cz6 HB.o;have fc0 := fz HB.o;rw [ho] at c0;clear ho;obtain ⟨l0s, hl0s⟩ : ∃ z, z = stL lp ls ex := ⟨_, rfl⟩;obtain ⟨b0s, hb0s⟩ : ∃ z, z = stB lp bs := ⟨_, rfl⟩;have hl0n : l0s.length ≤ ls.length + 1 := by rw [hl0s]; unfold stL; split <;> simp
 have hb0n : b0s.length ≤ bs.length + 1 := by rw [hb0s]; unfold stB; split <;> simp
 have HSb' := HSb;rw [← hl0s, ← hb0s] at HSb';have HL0S := zh hl0s;have HB0S := zh hb0s;clear hl0s hb0s;have hexb := HP.o.exb;have hcnt0 := Zq c;obtain ⟨Gc, Gl, Gb, cv, lv, bv, hs, hG⟩ := HSb'.o.st;have HSK := zh hs;have HGK := zh hG;have b0 := cz4 hs.blk;have fb0 := fz hs.blk;clear hs hG;obtain ⟨Ab, cb, rfl, hbc, hbm, -⟩ := id HSK.o.base;obtain ⟨iI, hiI, hz0, hz1, hz2⟩ := info_parts Zst;go_enter Tryz.func128, Tryz.ntmps128;go_upto_region 1 with (fail);refine Zhe [10, 11, 12, 13] [0] (fun z => z.heap[MB]? = some (.cells #[cv, lv, .int .i64 (m : Nat), .slice Ab b0s.length cb] TSt (0, 0))) (by kernel_rfl) (fun W1 hW1 => ?_);have hlW : Za wb W1 := by rw [hW1]; exact (Za.refl _).drew
 clear hW1 b0 fb0 c0 c1 c2 c3 c4 c5 fc0;have HSS := zh (show W1.heap[MB]? = some (.cells #[cv, lv, .int .i64 (m : Nat), .slice Ab b0s.length cb] TSt (0, 0)) from (hlW.block _ (Zc HSK.o.blk)).trans HSK.o.blk);have HKW := zh (HSK.o.later hlW);have HLW1 := zh hlW;clear hlW;refine Zk3 0 (some 7) (v := ?_) rfl rfl (by kernel_rfl) (fun _ _ _ h => h) rfl (fun x => ?_) ?_;rotate_left
 ·go_simp;first|done|with_reducible rfl
 simp only [Act.put, nA, nB, nC];refine tV 1 8 (v := ?_) rfl rfl HSS.o (fun x hx => ?_) ?_;rotate_left
 ·go_simp;first|done|with_reducible rfl
 simp only [Act.put, nA, nB, nC];refine tV 2 9 (v := ?_) rfl rfl HSS.o (fun x hx => ?_) ?_;rotate_left
 ·go_simp;first|done|with_reducible rfl
 simp only [Act.put, nA, nB, nC];refine tV 3 10 (v := ?_) rfl rfl HSS.o (fun x hx => ?_) ?_;rotate_left
 ·go_simp;first|done|with_reducible rfl
 simp only [Act.put, nA, nB, nC];refine tV 4 11 (v := ?_) rfl rfl HSS.o (fun x hx => ?_) ?_;rotate_left
 ·have hx1 := hx; have b0 := cz4 hx1; have fb0 := fz hx1; go_simp; first|done|with_reducible rfl
 simp only [Act.put, nA, nB, nC];refine tV 5 12 (v := ?_) rfl rfl HSS.o (fun x hx => ?_) ?_;rotate_left
 ·go_simp;first|done|with_reducible rfl
 simp only [Act.put, nA, nB, nC];refine tV 6 13 (v := ?_) rfl rfl HSS.o (fun x hx => ?_) ?_;rotate_left
 ·go_simp;first|done|with_reducible rfl
 simp only [Act.put, nA, nB, nC];refine tV 7 14 (v := ?_) rfl rfl HSS.o (fun x hx => ?_) ?_;rotate_left
 ·go_simp;first|done|with_reducible rfl
 simp only [Act.put, nA, nB, nC];refine tV 8 15 (v := ?_) rfl rfl HSS.o (fun x hx => ?_) ?_;rotate_left
 ·have hx1 := hx; have b0 := cz4 hx1; have fb0 := fz hx1; go_simp; first|done|with_reducible rfl
 simp only [Act.put, nA, nB, nC];refine Zf7 9 (by kernel_rfl) rfl rfl ?_;have hX : Za W1 (W1.alloc (.cells #[.int .i64 (m : Int)] Zco)) := (Za.refl _).alloc _;have HX := zh hX;have HROW := zh (HKW.o.base.keep Zap.is (fun _ h => h) (Zb.later hX));have HEL := zh (show Zc1 (fun _ => False) (W1.alloc (.cells #[.int .i64 (m : Int)] Zco)) (m : Int) [.int .i64 (m : Int)] from ⟨rfl, by unfold Zi; omega⟩);have HNO : Hd (∀ y, (fun _ : Nat => False) y → ¬ Gb y) := zh (fun _ h => h.elim);have HSS := zh (show (W1.alloc (.cells #[.int .i64 (m : Int)] Zco)).heap[MB]? = some (.cells #[cv, lv, .int .i64 (m : Nat), .slice Ab b0s.length cb] TSt (0, 0)) from (hX.block _ (Zc HSS.o)).trans HSS.o);clear hX;go_wp2_with fail;refine ⟨HSS.o, ?_⟩;refine Zij [_, _, _, _] (by kernel_rfl) rfl rfl ?_;simp only [List.getElem_toArray, List.getElem_cons_succ, List.getElem_cons_zero]
 go_wp2_with (at_builtin; refine Zbd Zap rfl _ _ 63 rfl Zco iI (.int .i64 0) 8 Tryz.underlying63 hiI hz0 hz1 hz2 rfl rfl HROW.o ⟨W1.heap.size, 0, none⟩ 1 rfl (m : Int) [.int .i64 (m : Int)] (Zgi W1 [.int .i64 (m : Int)] Zco) (by intro u hu; simp at hu; rcases hu with rfl; rfl) HEL.o HNO.o (by omega) (by decide) ?_; intro v2 Y hrow hkp hb0; obtain ⟨A2, c2, hv2, -⟩ := id hrow; rw [show (b0s ++ [(m : Int)]).length = b0s.length + 1 by simp] at hv2; subst hv2; have hpush := HKW.o.pushB HX.o hrow hkp; have HPU := zh hpush; have hYB := (hkp.same MB HKW.o.nM.2.2 (Zc HSS.o)).trans HSS.o; have y0 := cz4 hYB; have fy0 := fz hYB; have HTN := zh (Tn.set (P := fun b => b = MB ∨ Gc b ∨ Gl b ∨ Gb b) (Tn.trans (R := fun b => b = MB ∨ Gc b ∨ Gl b ∨ Gb b) (Tn.later (P := fun _ => False) HX.o) (Tn.mk (P := Gb) hkp hb0) (fun _ h => h.elim) (fun b _ hb => .inr (.inr (.inr hb)))) (c := MB) (.inl rfl) 3 (.slice A2 (b0s.length + 1) c2)); have HXS := zh HX.o.size; obtain ⟨wp, hwp⟩ : ∃ z, Y.setCell ⟨MB, 3, none⟩ (.slice A2 (b0s.length + 1) c2) = z := ⟨_, rfl⟩; rw [hwp] at hpush HTN HPU; obtain ⟨G1, hs1⟩ := SS.of HGK.o HPU.o HTN.o (fun b hb => by rcases hb with h | h | ⟨h | h | h, -⟩; exact .inl (.inl h); exact .inl (.inr (.inl h)); exact .inl (.inr (.inr h)); exact h.elim; exact .inr (Nat.le_trans HXS.o (Nat.le_of_eq h.symm))); have HS1 := zh (HSb'.o.trans ((HSb'.o.here.later HLW1.o).trans (SS.trans (show SS W1 W1 MB G G L l0s m b0s from (HSb'.o.later HLW1.o).here) hs1))); have HBk := zh (HS1.o.tn.has HB.o hNP); obtain ⟨c0, c1, c2, c3, c4, c5⟩ := cz6 HBk.o; have fc0 := fz HBk.o; rw [HO.o] at c0; clear HBk hrow hkp hb0)
 refine (Z8 MB G1 L _ _ _ 13 (-1) c.line wp HS1.o.here (by unfold Zi; omega) (by unfold Zi; omega) hn3 (by omega)).mono ?_;rintro e w2 ⟨rfl, G2, hs⟩;replace hs := HS1.o.trans hs;clear c0 c1 c2 c3 c4 c5 fc0;obtain ⟨L2, hL⟩ : ∃ z, z = L ++ [Zg 13 (-1) c.line] := ⟨_, rfl⟩;rw [← hL] at hs;have HL2 := zh (show L2 = L ++ ([Zg 13 (-1) c.line]) by rw [hL]; try simp [Zg]);have HN2 := zh (show L2.length = L.length + 1 by rw [hL]; simp; try omega);have HS2 := zh hs;clear hs hL;clear hwp y0 fy0;obtain ⟨Gc, Gl, Gb, cv, lv, bv, hs, hG⟩ := HS2.o.st;have HSK := zh hs;have HGK := zh hG;have b0 := cz4 hs.blk;have fb0 := fz hs.blk;clear hs hG;obtain ⟨w3, hwn⟩ : ∃ z, w2.setCell ⟨MB, 2, none⟩ (.int .i64 ((m : Int) + 1)) = z := ⟨_, rfl⟩;have hsn := SS.of0 (x := w3) HS2.o.lt HGK.o (by rw [← hwn]; exact HSK.o.setM (m + 1)) (by rw [← hwn]; exact Tn.set (Tn.refl _ _) (.inl rfl) _ _);have HS3 := zh (HS2.o.trans hsn);clear hsn
 have HBk := zh (HS3.o.tn.has HB.o hNP);obtain ⟨c0, c1, c2, c3, c4, c5⟩ := cz6 HBk.o;have fc0 := fz HBk.o;clear HBk;obtain ⟨kb4, ko4, Bk4, q4, eA, hca, HE4, hlen4⟩ := HP.o.sub (i := 0) (m1 := m + 1) (lp1 := none) (w1 := w3) (MB1 := MB) (G1 := G2) (e1 := [].length + (l0s).length + ((b0s ++ [(m : Int)])).length) (l1 := L2.length) (by omega) (Nat.le_trans HLb.o.size HS3.o.tn.size) (HS3.o.keeps' HLb.o HP.o.fr) (HS3.o.off HLb.o HP.o.fr HP.o.flt) (by rw [HO.o]; simp [Zm]) (by omega) (fun x hx => by simp at hx) (by have := HP.o.exb; have := Zq c; simp [stL, stB]; omega) (by have := HN2.o; omega);cases eA;have d0 := hca.c0;have d1 := hca.c1;have d2 := hca.c2;have d3 := hca.c3;have d4 := hca.c4;have d5 := hca.c5;simp only [Nat.zero_mul, Nat.add_zero, Nat.reduceMul, Nat.add_assoc, Nat.reduceAdd] at d0 d1 d2 d3 d4 d5;clear hca;go_wp2_with fail;refine (IH _ rfl w3 MB G2 L2 none l0s (b0s ++ [(m : Int)]) [] F (c.kid 0) Bk4 q4 (m + 1) B (zh HS3.o.here) HE4).mono ?_;rintro e w4 ⟨rfl, G4, hs⟩;replace hs := HS3.o.trans hs;rw [HN2.o] at hs;have hq4 := hlen4 (L.length + 1);clear hlen4 d0 d1 d2 d3 d4 d5;obtain ⟨r4, hr⟩ : ∃ z, z = cg (n + 1) (c.kid 0) (m + 1) (none) (L.length + 1) := ⟨_, rfl⟩;rw [← hr] at hs hq4;have HR4 := zh hr;have hxl4 : r4.2.length ≤ Z0 (c.kid 0) := by rw [hr]; exact Z1 _ _ _ _ _ HE4.o.ok
 clear hr;clear c0 c1 c2 c3 c4 c5 fc0;clear b0 fb0 hwn HSK HGK;obtain ⟨L4, hL⟩ : ∃ z, z = L2 ++ r4.1 := ⟨_, rfl⟩;rw [← hL] at hs;have HL4 := zh (show L4 = L ++ ([Zg 13 (-1) c.line] ++ (r4.1)) by rw [hL, HL2.o]; try simp [Zg]);have HN4 := zh (show L4.length = L.length + 1 + r4.1.length by have := HN2.o; rw [hL]; simp; try omega);have HS4 := zh hs;clear hs hL;have HBk := zh (HS4.o.tn.has HB.o hNP);obtain ⟨c0, c1, c2, c3, c4, c5⟩ := cz6 HBk.o;have fc0 := fz HBk.o;clear HBk;go_wp2_with fail;refine (Z8 MB G4 L4 _ _ _ 30 0 c.line w4 HS4.o.here (by unfold Zi; omega) (by unfold Zi; omega) hn3 (by have := HN4.o; omega)).mono ?_;rintro e w5 ⟨rfl, G5, hs⟩;replace hs := HS4.o.trans hs;clear c0 c1 c2 c3 c4 c5 fc0;obtain ⟨L5, hL⟩ : ∃ z, z = L4 ++ [Zg 30 0 c.line] := ⟨_, rfl⟩;rw [← hL] at hs;have HL5 := zh (show L5 = L ++ ([Zg 13 (-1) c.line] ++ (r4.1 ++ ([Zg 30 0 c.line]))) by rw [hL, HL4.o]; try simp [Zg]);have HN5 := zh (show L5.length = L.length + 1 + r4.1.length + 1 by have := HN4.o; rw [hL]; simp; try omega);have HS5 := zh hs;clear hs hL;have HBk := zh (HS5.o.tn.has HB.o hNP);obtain ⟨c0, c1, c2, c3, c4, c5⟩ := cz6 HBk.o;have fc0 := fz HBk.o;clear HBk;obtain ⟨kb6, ko6, Bk6, q6, eA, hca, HE6, hlen6⟩ := HP.o.sub (i := 1) (m1 := m + 1 + 1) (lp1 := some (⟨true, m, 0⟩ : Zr)) (w1 := w5) (MB1 := MB) (G1 := G5) (e1 := 0 + l0s.length + b0s.length) (l1 := L5.length + 1) (by omega) (Nat.le_trans HLb.o.size HS5.o.tn.size) (HS5.o.keeps' HLb.o HP.o.fr) (HS5.o.off HLb.o HP.o.fr HP.o.flt) (by rw [HO.o]; simp [Zm]) (by omega) (fun x hx => by cases hx; simp) (by omega) (by have := HN2.o; have := HN4.o; have := HN5.o; omega)
 cases eA;have d0 := hca.c0;have d1 := hca.c1;have d2 := hca.c2;have d3 := hca.c3;have d4 := hca.c4;have d5 := hca.c5;simp only [Nat.zero_mul, Nat.add_zero, Nat.reduceMul, Nat.add_assoc, Nat.reduceAdd] at d0 d1 d2 d3 d4 d5;clear hca;go_wp2_with fail;refine (Zmc _ (IH _ rfl) w5 MB G5 L5 (⟨true, m, 0⟩ : Zr) l0s b0s F (c.kid 1) Bk6 q6 (m + 1) B 0 (zh HS5.o.here) HE6 (by unfold Zi; omega) (by show 0 ≤ _; omega)).mono ?_;rintro e w6 ⟨rfl, G6, hs⟩;replace hs := HS5.o.trans hs;rw [HN5.o] at hs;have hq6 := hlen6 (L.length + 1 + r4.1.length + 1 + 1);clear hlen6 d0 d1 d2 d3 d4 d5;obtain ⟨r6, hr⟩ : ∃ z, z = cg (n + 1) (c.kid 1) (m + 1 + 1) (some (⟨true, m, 0⟩ : Zr)) (L.length + 1 + r4.1.length + 1 + 1) := ⟨_, rfl⟩;rw [← hr] at hs hq6;have HR6 := zh hr;have hxl6 : r6.2.length ≤ Z0 (c.kid 1) := by rw [hr]; exact Z1 _ _ _ _ _ HE6.o.ok
 have HXR := zh (show ∀ i ∈ r6.2, L.length + 1 + r4.1.length + 1 + 1 ≤ i ∧ i < L.length + 1 + r4.1.length + 1 + 1 + r6.1.length from fun i hi => by rw [hr] at hi ⊢; exact Zdk _ _ _ _ _ i hi);clear hr;clear c0 c1 c2 c3 c4 c5 fc0;obtain ⟨L6, hL⟩ : ∃ z, z = L5 ++ (Zg 13 0 (c.kid 1).line :: (r6.1 ++ [Zg 14 0 (c.kid 1).line])) := ⟨_, rfl⟩;rw [← hL] at hs;have HL6 := zh (show L6 = L ++ ([Zg 13 (-1) c.line] ++ (r4.1 ++ ([Zg 30 0 c.line] ++ ([Zg 13 0 (c.kid 1).line] ++ (r6.1 ++ ([Zg 14 0 (c.kid 1).line])))))) by rw [hL, HL5.o]; try simp [Zg]);have HN6 := zh (show L6.length = L.length + 1 + r4.1.length + 1 + r6.1.length + 2 by have := HN5.o; rw [hL]; simp; try omega);have HS6 := zh hs;clear hs hL;have HBk := zh (HS6.o.tn.has HB.o hNP);obtain ⟨c0, c1, c2, c3, c4, c5⟩ := cz6 HBk.o;have fc0 := fz HBk.o;clear HBk;go_wp2_with fail;refine (Zb9 MB G6 L6 _ _ _ L5.length w6 HS6.o.here (by have := HN2.o; have := HN4.o; have := HN5.o; have := HN6.o; omega) (by have := HN6.o; omega)).mono ?_;rintro e w7 ⟨rfl, hs⟩;replace hs := HS6.o.trans hs;clear c0 c1 c2 c3 c4 c5 fc0;have hpt := Zav (LL := L6) (A := L ++ ([Zg 13 (-1) c.line] ++ (r4.1 ++ ([Zg 30 0 c.line])))) (B := r6.1 ++ ([Zg 14 0 (c.kid 1).line])) (op := 13) (a0 := 0) (l := (c.kid 1).line) (i := L5.length) (k := L.length + 1 + r4.1.length + 1 + r6.1.length + 2) (by rw [HL6.o]; simp) (by have := HN2.o; have := HN4.o; have := HN5.o; have := HN6.o; simp; try omega) HN6.o;rw [hpt] at hs;obtain ⟨L7, hL⟩ : ∃ z, z = L ++ ([Zg 13 (-1) c.line] ++ (r4.1 ++ ([Zg 30 0 c.line]))) ++ Zg 13 ((L.length + 1 + r4.1.length + 1 + r6.1.length + 2 : Nat) : Int) (c.kid 1).line :: (r6.1 ++ ([Zg 14 0 (c.kid 1).line])) := ⟨_, rfl⟩
 rw [← hL] at hs;have HL7 := zh (show L7 = L ++ ([Zg 13 (-1) c.line] ++ (r4.1 ++ ([Zg 30 0 c.line] ++ ([Zg 13 ((L.length + 1 + r4.1.length + 1 + r6.1.length + 2 : Nat) : Int) (c.kid 1).line] ++ (r6.1 ++ ([Zg 14 0 (c.kid 1).line])))))) by rw [hL]; simp);have HN7 := zh (show L7.length = L.length + 1 + r4.1.length + 1 + r6.1.length + 2 by rw [hL, ← hpt, Zp, HN6.o]);have HS7 := zh hs;clear hs hL hpt;have HBk := zh (HS7.o.tn.has HB.o hNP);obtain ⟨c0, c1, c2, c3, c4, c5⟩ := cz6 HBk.o;have fc0 := fz HBk.o;clear HBk;go_wp2_with fail;refine (Z8 MB G6 L7 _ _ _ 16 0 c.line w7 HS7.o.here (by unfold Zi; omega) (by unfold Zi; omega) hn3 (by have := HN7.o; omega)).mono ?_;rintro e w8 ⟨rfl, G8, hs⟩;replace hs := HS7.o.trans hs;clear c0 c1 c2 c3 c4 c5 fc0;obtain ⟨L8, hL⟩ : ∃ z, z = L7 ++ [Zg 16 0 c.line] := ⟨_, rfl⟩;rw [← hL] at hs;have HL8 := zh (show L8 = L ++ ([Zg 13 (-1) c.line] ++ (r4.1 ++ ([Zg 30 0 c.line] ++ ([Zg 13 ((L.length + 1 + r4.1.length + 1 + r6.1.length + 2 : Nat) : Int) (c.kid 1).line] ++ (r6.1 ++ ([Zg 14 0 (c.kid 1).line] ++ ([Zg 16 0 c.line]))))))) by rw [hL, HL7.o]; try simp [Zg]);have HN8 := zh (show L8.length = L.length + 1 + r4.1.length + 1 + r6.1.length + 2 + 1 by have := HN7.o; rw [hL]; simp; try omega);have HS8 := zh hs;clear hs hL;obtain ⟨Gc, Gl, Gb, cv, lv, bv, hs, hG⟩ := HS8.o.st;have HSK := zh hs;have HGK := zh hG;have b0 := cz4 hs.blk;have fb0 := fz hs.blk;clear hs hG;obtain ⟨w9, hwn⟩ : ∃ z, w8.setCell ⟨MB, 2, none⟩ (.int .i64 ((m : Int))) = z := ⟨_, rfl⟩
 have hsn := SS.of0 (x := w9) HS8.o.lt HGK.o (by rw [← hwn]; exact HSK.o.setM (m)) (by rw [← hwn]; exact Tn.set (Tn.refl _ _) (.inl rfl) _ _);have HS9 := zh (HS8.o.trans hsn);clear hsn
 have HBk := zh (HS9.o.tn.has HB.o hNP);obtain ⟨c0, c1, c2, c3, c4, c5⟩ := cz6 HBk.o;have fc0 := fz HBk.o;clear HBk;have hs : SS wb w9 MB G G8 L8 (l0s ++ [⟨true, ((0 : Nat) : Int), r6.2.map Int.ofNat⟩]) m (b0s ++ [(m : Int)]) := HS9.o;have HSQ := zh hs;obtain ⟨Gd, Gm, Gn, dv, mv, nv, hs, hG⟩ := hs.st;have HSD := zh hs;have HGD := zh hG;obtain ⟨An, cn, en, hnc, hnm, -⟩ := id hs.base;rw [show (b0s ++ [(m : Int)]).length = b0s.length + 1 by simp] at en hnc;subst en;have tbn : IntKind.i64.wrap (((b0s.length + 1 : Nat) : Int) - 1) = (b0s.length : Int) := by rw [IntWalk.i64_in _ (by omega)]; omega
 have tbn0 : IntKind.i64.wrap (b0s.length : Int) = (b0s.length : Int) := by rw [IntWalk.i64_in _ (by omega)]
 have hnn : (b0s.length : Int) ≤ (cn : Int) := by omega
 clear hs hG;go_upto_region 17 with (fail);refine Z3 [14] [] (by kernel_rfl) (fun W8 hW8 => ?_);have hlW : Za w9 W8 := by rw [hW8]; exact (Za.refl _).drew
 clear hW8;have HSW := zh (HSD.o.later hlW);have HLW8 := zh hlW;clear hlW;refine tU 0 94 (v := ?_) rfl rfl (fun x hx => ?_) ?_;rotate_left
 ·go_simp;first|done|with_reducible rfl
 simp only [Act.put, nA, nB, nC];refine tU 1 95 (v := ?_) rfl rfl (fun x hx => ?_) ?_;rotate_left
 ·go_simp;first|done|with_reducible rfl
 simp only [Act.put, nA, nB, nC];refine tU 2 96 (v := ?_) rfl rfl (fun x hx => ?_) ?_;rotate_left
 ·go_simp;first|done|with_reducible rfl
 simp only [Act.put, nA, nB, nC];refine tU 3 97 (v := ?_) rfl rfl (fun x hx => ?_) ?_;rotate_left
 ·go_simp;first|done|with_reducible rfl
 simp only [Act.put, nA, nB, nC];refine tU 4 98 (v := ?_) rfl rfl (fun x hx => ?_) ?_;rotate_left
 ·have hxb := (hx.block _ (Zc HSW.o.blk)).trans HSW.o.blk; have b0 := cz4 hxb; have fb0 := fz hxb; go_simp; first|done|with_reducible rfl
 simp only [Act.put, nA, nB, nC];refine tU 5 99 (v := ?_) rfl rfl (fun x hx => ?_) ?_;rotate_left
 ·go_simp;first|done|with_reducible rfl
 simp only [Act.put, nA, nB, nC];refine tU 6 100 (v := ?_) rfl rfl (fun x hx => ?_) ?_;rotate_left
 ·go_simp;first|done|with_reducible rfl
 simp only [Act.put, nA, nB, nC];refine tU 7 101 (v := ?_) rfl rfl (fun x hx => ?_) ?_;rotate_left
 ·go_simp;first|done|with_reducible rfl
 simp only [Act.put, nA, nB, nC];refine tU 8 102 (v := ?_) rfl rfl (fun x hx => ?_) ?_;rotate_left
 ·have hxb := (hx.block _ (Zc HSW.o.blk)).trans HSW.o.blk; have b0 := cz4 hxb; have fb0 := fz hxb; go_simp; first|done|with_reducible rfl
 simp only [Act.put, nA, nB, nC];refine tU 9 103 (v := ?_) rfl rfl (fun x hx => ?_) ?_;rotate_left
 ·go_simp;first|done|with_reducible rfl
 simp only [Act.put, nA, nB, nC];refine tU 10 104 (v := ?_) rfl rfl (fun x hx => ?_) ?_;rotate_left
 ·go_simp;first|done|with_reducible rfl
 simp only [Act.put, nA, nB, nC];refine tU 11 105 (v := ?_) rfl rfl (fun x hx => ?_) ?_;rotate_left
 ·go_simp;first|done|with_reducible rfl|rw[if_neg (by omega)]|rw[if_pos (by omega)]
 simp only [Act.put, nA, nB, nC];refine tU 12 106 (v := ?_) rfl rfl (fun x hx => ?_) ?_;rotate_left
 ·go_simp;first|done|with_reducible rfl
 simp only [Act.put, nA, nB, nC];refine tU 13 107 (v := ?_) rfl rfl (fun x hx => ?_) ?_;rotate_left
 ·go_simp;first|done|with_reducible rfl
 simp only [Act.put, nA, nB, nC];refine Zag [_] (by kernel_rfl) rfl rfl ?_;simp only [List.getElem_toArray, List.getElem_cons_succ, List.getElem_cons_zero];have b0 := cz4 HSW.o.blk;have fb0 := fz HSW.o.blk;have hcut := HSW.o.cutB (n := b0s.length) (by simp) (A := An) (c := cn) (by simp);rw [show (b0s ++ [(m : Int)]).take b0s.length = b0s by simp] at hcut;obtain ⟨wq, hwq⟩ : ∃ z, W8.setCell ⟨MB, 3, none⟩ (.slice An b0s.length cn) = z := ⟨_, rfl⟩;rw [hwq] at hcut;have HSR := zh (HSQ.o.trans (SS.of0 HSQ.o.lt HGD.o hcut (by rw [← hwq]; exact Tn.set (Tn.later HLW8.o) (.inl rfl) _ _)));clear hcut;go_wp2_with fail;refine (Zmd MB G8 L8 l0s _ m b0s r6.2 wq HSR.o.here rfl (by omega) (fun i hi => by have := (HXR.o i hi).2; have := HN2.o; have := HN4.o; have := HN5.o; have := HN6.o; have := HN7.o; have := HN8.o; omega) (by have := HN2.o; have := HN4.o; have := HN5.o; have := HN6.o; have := HN7.o; have := HN8.o; omega)).mono ?_;rintro e wz ⟨rfl, Gz, hs⟩;have hfin := (HS.o.here.later HLb.o).trans (HSR.o.trans hs);clear hs;rw [HL0S.o, HB0S.o] at hfin;have HFIN := zh hfin;clear hfin;go_wp2_with fail
 go_end0
 refine ⟨rfl, Gz, ?_⟩;show SS w wz MB G Gz (L ++ (Zk (cg (n + 1)) c m lp L.length).1) (stL lp ls (ex ++ (Zk (cg (n + 1)) c m lp L.length).2)) m (stB lp bs);rw [Zfp HO.o];simp only [bnd, Zaq];simp only [← HR4.o, ← HR6.o];refine HFIN.o.cast ?_ (by simp);refine (Zf6 (A := L) HL8.o rfl (fun i hi => by have := (HXR.o i hi).1; omega)).trans ?_;rw [HN8.o];simp [Zg, Nat.add_assoc]
theorem Zsu (n : Nat) (IH : ∀ n', n = n' + 1 → Zci n') (w : World) (MB : Nat) (G : Nat → Prop) (L : List Ze) (lp : Option Zr) (ls : List Zak) (bs : List Int) (ex : List Nat) (F : Nat → Prop) (c : Zd) (A : Option Addr) (k m B : Nat) (HS : Hd (SS w w MB G G L (stL lp ls ex) m (stB lp bs))) (HP : Hd (CxP n w MB G L.length lp (ex.length + ls.length + bs.length) F c A k m B)) (ho : c.kind = 19) :
  Calls Tryz.prog 71 #[.pointer (some ⟨MB, 0, none⟩), c.val A k] w (Zb5 n w MB G L lp ls bs ex c m) := by
 have HO := zh ho;unfold Zd.val;have hlwb : Za w (w.alloc (.cells #[.int .i64 c.kind, .int .i64 c.op, .int .i64 c.aB, .int .i64 c.line, .string c.text, .slice A c.kids.length k] 68)) := (Za.refl _).alloc _;obtain ⟨wb, hwb⟩ : ∃ z, w.alloc (.cells #[.int .i64 c.kind, .int .i64 c.op, .int .i64 c.aB, .int .i64 c.line, .string c.text, .slice A c.kids.length k] 68) = z := ⟨_, rfl⟩;rw [hwb] at hlwb;have HB := zh (show wb.heap[w.heap.size]? = some (.cells #[.int .i64 c.kind, .int .i64 c.op, .int .i64 c.aB, .int .i64 c.line, .string c.text, .slice A c.kids.length k] 68 (0, 0)) by rw [← hwb]; exact heap_alloc_new _ _);have hNP : ¬ (w.heap.size = MB ∨ G w.heap.size) := by
  obtain ⟨_, _, _, _, _, _, hs, -⟩ := HS.o.st;rintro (h | h)
  ·have := HS.o.below; omega
  ·have := HS.o.lt _ h; omega
 have HSb := zh ((HS.o.later hlwb).here);have HLb := zh hlwb;have hn3 := HP.o.cv.n3;have hmb := HP.o.mb;have hlb := HP.o.lb;have hbB := HP.o.bB;have hmul : Z0 c * B = Zx c.kids * B + B := by rw [Zq c, Nat.add_mul, Nat.one_mul]
 have tm1 : IntKind.i64.wrap ((m : Int) + 1) = ((m + 1 : Nat) : Int) := by rw [IntWalk.i64_in _ (by omega)]; rfl
 have tm0 : IntKind.i64.wrap (m : Int) = (m : Int) := IntWalk.i64_in _ (by omega);obtain ⟨c0, c1, c2, c3, c4, c5⟩ := cz6 HB.o;have fc0 := fz HB.o;rw [ho] at c0;clear ho;have HVV := zh (show (Value.agg #[.int .i64 19, .int .i64 c.op, .int .i64 c.aB, .int .i64 c.line, .string c.text, .slice A c.kids.length k]) = c.val A k by unfold Zd.val; rw [HO.o]);go_enter Tryz.func71, Tryz.ntmps71;go_wp2_with fail;rw [HVV.o];refine (Zqn n IH wb MB G L lp ls bs ex F c A k m B (zh HSb.o) (zh (CxP.move HP.o (Zb.later HLb.o) HLb.o.size (HSb.o.off HLb.o HP.o.fr HP.o.flt))) HO.o).mono ?_;rintro e w1 ⟨rfl, G1, hs⟩;have HS1 := zh ((HS.o.here.later HLb.o).trans hs);clear hs;go_wp2_with fail
 go_end0
 exact ⟨rfl, G1, HS1.o⟩
theorem Zg4 (MB : Nat) (Gc Gl Gb : Nat → Prop) (L : List Ze) (ls : List Zak) (m : Nat) (bs : List Int) (cv lv bv : Value) (t : Nat) (line : Int) (w : World) (h : SpK w MB Gc Gl Gb L ls m bs cv lv bv) (ht : t ≤ m) (hm : m ≤ 1000000) (aM : Zi line) (hl : L.length + m ≤ 134217728) :
  Calls Tryz.prog 164 #[.pointer (some ⟨MB, 0, none⟩), .int .i64 t, .int .i64 line] w fun e w' => e = .returned (.tuple #[]) ∧ SK w w' MB Gc Gl Gb (L ++ unm (m - t) line) ls m bs lv bv := by
 have HS := zh h;have b0 := cz4 h.blk;have fb0 := fz h.blk;clear h;go_enter Tryz.func164, Tryz.ntmps164;go_wp2_with fail
 go_loopw [6] (fun nv wr => ∃ k : Nat, k ≤ m - t ∧ nv = .int .i64 ((m - k : Nat) : Int) ∧ SK w wr MB Gc Gl Gb (L ++ unm k line) ls m bs lv bv) (fun nv _ => (intOf nv).toNat)
 case atStart => exact ⟨0, Nat.zero_le _, rfl, by unfold SK; exact ⟨Gc, cv, by simpa [unm] using HS.o, fun _ h => .inl h, Tn.refl _ _⟩⟩
 case round =>
  obtain ⟨k, hk, rfl, G1, cv1, hs1, hg1, ht1⟩ := hrel;have HS1 := zh hs1;have HG1 := zh hg1;have HT1 := zh ht1;clear hs1 hg1 ht1
  by_cases hlt : k < m - t
  ·have hlt' : (t : Int) < ((m - k : Nat) : Int) := by omega
   have tk : IntKind.i64.wrap (((m - k : Nat) : Int) - 1) = ((m - (k + 1) : Nat) : Int) := by rw [IntWalk.i64_in _ (by omega)]; omega
   go_wp2_with fail;refine (Zma MB G1 Gl Gb _ _ _ _ cv1 lv bv 14 0 line _ HS1.o (by unfold Zi; omega) (by unfold Zi; omega) aM (by simp [unm]; omega)).mono ?_;rintro e w2 ⟨rfl, G2, cv2, hs2, hg2, ht2⟩;have hsz := HT1.o.size;have HS2 := zh (show SpK w2 MB G2 Gl Gb (L ++ unm (k + 1) line) ls m bs cv2 lv bv by rw [Zm7, ← List.append_assoc]; exact hs2);have HG2 := zh (show ∀ b, G2 b → Gc b ∨ w.heap.size ≤ b from fun b hb => by
    rcases hg2 b hb with h | h
    ·exact HG1.o b h
    ·exact .inr (by omega))
   have HT2 := zh (Tn.trans (R := fun b => b = MB ∨ Gc b) HT1.o ht2 (fun _ h => h) (fun b hl hb => by
    rcases hb with hb | hb
    ·exact .inl hb
    ·rcases HG1.o b hb with h | h
     ·exact .inr h
     ·omega))
   clear hs2 hg2 ht2;go_wp2_with fail
   go_roundw
   case rel => exact ⟨k + 1, by omega, rfl, by unfold SK; exact ⟨G2, cv2, HS2.o, HG2.o, HT2.o⟩⟩
   case measure => simp [intOf]; omega
  ·obtain rfl : k = m - t := by omega
   have hlt' : ¬ (t : Int) < ((m - (m - t) : Nat) : Int) := by omega
   go_wp2_with fail
   go_end0
   exact ⟨rfl, by unfold SK; exact ⟨G1, cv1, HS1.o, HG1.o, HT1.o⟩⟩
end Go.Proofs.YtcmmdchjppaimaaGreatDoor
