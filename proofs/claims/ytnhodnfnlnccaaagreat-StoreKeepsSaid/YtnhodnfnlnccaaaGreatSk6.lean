/- An interpreter for Go's texts over plain data, its proof, and what it says of the functions that the law reaches. My own work. -/
import Derived.Test.YtnhodnfnlnccaaaGreatSk5
namespace Vm
section
set_option maxHeartbeats 2000000
open Go Go.Proofs
set_option linter.unusedSimpArgs false
set_option linter.unusedVariables false
set_option maxRecDepth 100000
def bB : SesD := ⟨5, 1, 1, [[vN 2, vN 0, vN 0, vN 1], [vN 3, vN 0, vN 1, vN 0]], 0, 0, 0, 0, 0, 0, [], [], 0, 0, 0, 0, 0⟩
def bA0 : SesD := ⟨3, 0, 3, [[vN 2, vN 0, vN 0, vN 0], [vN 1, vN 0, vN 0, vN 0], [vN 3, vN 0, vN 0, vN 0]], 0, 0, 0, 0, 0, 0, [], [], 0, 0, 0, 0, 0⟩
def bH0 : Mh := ⟨[[vN 5, vN 0, vN 0], [vN 6, vN 0, vN 0]], [[vN 7, vN 0, vN 0]], [], [[vN 9, vN 0, vN 0]], 0, 0, 0, 0, 9, []⟩
def bA1 : SesD := ⟨3, 0, 3, [[vN 2, vN 0, vN 0, vN 0], [vN 1, vN 0, vN 0, vN 0], [vN 3, vN 0, vN 0, vN 0]], 0, 1, 5, 0, 0, 0, [[vN 0, vN 0, vN 0]], [], 0, 0, 0, 0, 0⟩
def bH1 : Mh := ⟨[[vN 5, vN 0, vN 0], [vN 6, vN 0, vN 0]], [[vN 7, vN 0, vN 0]], [], [[vN 9, vN 0, vN 0]], 0, 0, 0, 0, 9, [[vN 3, vN 0, vN 0, vN 5]]⟩
def bA2 : SesD := ⟨3, 0, 3, [[vN 2, vN 0, vN 0, vN 0], [vN 1, vN 0, vN 0, vN 0], [vN 3, vN 0, vN 0, vN 0]], 0, 2, 10, 0, 0, 0, [[vN 0, vN 0, vN 0]], [], 0, 0, 0, 0, 0⟩
def bH2 : Mh := ⟨[[vN 5, vN 0, vN 0], [vN 6, vN 0, vN 0]], [[vN 7, vN 0, vN 0]], [], [[vN 9, vN 0, vN 0]], 0, 0, 0, 0, 9, [[vN 3, vN 0, vN 0, vN 5]]⟩
def bA3 : SesD := ⟨3, 0, 3, [[vN 2, vN 0, vN 0, vN 0], [vN 1, vN 0, vN 0, vN 0], [vN 3, vN 0, vN 0, vN 0]], 0, 3, 10, 0, 0, 0, [[vN 0, vN 0, vN 0]], [[vN 0, vN 0, vN 10]], 0, 0, 0, 0, 0⟩
def bH3 : Mh := ⟨[[vN 5, vN 0, vN 0], [vN 6, vN 0, vN 0]], [[vN 7, vN 0, vN 0]], [], [[vN 9, vN 0, vN 0]], 0, 0, 0, 0, 9, [[vN 3, vN 0, vN 0, vN 5], [vN 3, vN 0, vN 1, vN 10]]⟩
def bA4 : SesD := ⟨3, 0, 3, [[vN 2, vN 0, vN 0, vN 0], [vN 1, vN 0, vN 0, vN 0], [vN 3, vN 0, vN 0, vN 0]], 1, 3, 10, 0, 0, 0, [[vN 0, vN 0, vN 0]], [[vN 0, vN 0, vN 10]], 0, 0, 0, 0, 0⟩
def bH4 : Mh := ⟨[[vN 5, vN 0, vN 0], [vN 6, vN 0, vN 0]], [[vN 7, vN 0, vN 0]], [], [[vN 9, vN 0, vN 0]], 0, 0, 0, 0, 9, [[vN 3, vN 0, vN 0, vN 5], [vN 3, vN 0, vN 1, vN 10]]⟩
theorem eSt1 (K : DV → Prop) : (askH Tryz.prog (hkM spC [] [(58, iRCopF), (128, jRun)]) Tryz.f79 [.agg [D.s 0 3 [[D.v (Value.int IntKind.i64 5), D.v (Value.int IntKind.i64 0), D.v (Value.int IntKind.i64 0)], [D.v (Value.int IntKind.i64 6), D.v (Value.int IntKind.i64 0), D.v (Value.int IntKind.i64 0)]] [], D.s 0 3 [[D.v (Value.int IntKind.i64 7), D.v (Value.int IntKind.i64 0), D.v (Value.int IntKind.i64 0)]] [], D.s 0 3 [] [], D.s 0 3 [[D.v (Value.int IntKind.i64 9), D.v (Value.int IntKind.i64 0), D.v (Value.int IntKind.i64 0)]] [], D.v (Value.int IntKind.i64 0), D.v (Value.int IntKind.i64 0), D.v (Value.int IntKind.i64 0), D.v (Value.int IntKind.i64 0), D.v (Value.int IntKind.i64 9), D.s 0 17 [[D.v (Value.int IntKind.i64 3), D.v (Value.int IntKind.i64 0), D.v (Value.int IntKind.i64 3), D.s 0 4 [[D.v (Value.int IntKind.i64 2), D.v (Value.int IntKind.i64 0), D.v (Value.int IntKind.i64 0), D.v (Value.int IntKind.i64 0)], [D.v (Value.int IntKind.i64 1), D.v (Value.int IntKind.i64 0), D.v (Value.int IntKind.i64 0), D.v (Value.int IntKind.i64 0)], [D.v (Value.int IntKind.i64 3), D.v (Value.int IntKind.i64 0), D.v (Value.int IntKind.i64 0), D.v (Value.int IntKind.i64 0)]] [], D.v (Value.int IntKind.i64 0), D.v (Value.int IntKind.i64 0), D.v (Value.int IntKind.i64 0), D.v (Value.int IntKind.i64 0), D.v (Value.int IntKind.i64 0), D.v (Value.int IntKind.i64 0), D.s 0 3 [] [], D.s 0 3 [] [], D.v (Value.int IntKind.i64 0), D.v (Value.int IntKind.i64 0), D.v (Value.int IntKind.i64 0), D.v (Value.int IntKind.i64 0), D.v (Value.int IntKind.i64 0)], [D.v (Value.int IntKind.i64 5), D.v (Value.int IntKind.i64 1), D.v (Value.int IntKind.i64 1), D.s 0 4 [[D.v (Value.int IntKind.i64 2), D.v (Value.int IntKind.i64 0), D.v (Value.int IntKind.i64 0), D.v (Value.int IntKind.i64 1)], [D.v (Value.int IntKind.i64 3), D.v (Value.int IntKind.i64 0), D.v (Value.int IntKind.i64 1), D.v (Value.int IntKind.i64 0)]] [], D.v (Value.int IntKind.i64 0), D.v (Value.int IntKind.i64 0), D.v (Value.int IntKind.i64 0), D.v (Value.int IntKind.i64 0), D.v (Value.int IntKind.i64 0), D.v (Value.int IntKind.i64 0), D.s 0 3 [] [], D.s 0 3 [] [], D.v (Value.int IntKind.i64 0), D.v (Value.int IntKind.i64 0), D.v (Value.int IntKind.i64 0), D.v (Value.int IntKind.i64 0), D.v (Value.int IntKind.i64 0)]] [], D.s 0 4 [] []], I 0] K) = (K (DV.tup [DV.agg (macLR (1) ⟨[[vN (5), vN (0), vN (0)], [vN (6), vN (0), vN (0)]], [[vN (7), vN (0), vN (0)]], [], [[vN (9), vN (0), vN (0)]], (0), (0), (0), (0), (9), [[vN (3), vN (0), vN (0), vN (5)]]⟩ [(sesL (1) ⟨(3), (0), (3), [[vN (2), vN (0), vN (0), vN (0)], [vN (1), vN (0), vN (0), vN (0)], [vN (3), vN (0), vN (0), vN (0)]], (0), (1), (5), (0), (0), (0), [[vN (0), vN (0), vN (0)]], [], (0), (0), (0), (0), (0)⟩), (sesL (1) ⟨(5), (1), (1), [[vN (2), vN (0), vN (0), vN (1)], [vN (3), vN (0), vN (1), vN (0)]], (0), (0), (0), (0), (0), (0), [], [], (0), (0), (0), (0), (0)⟩)]), I (0)])) := by kernel_rfl
theorem cSt1 : CT Tryz.prog 79 [.agg (macL 0 bH0 [bA0, bB]), I 0] (macR bH1 [bA1, bB] 0) := by
  have e : macL 0 bH0 [bA0, bB] = [D.s 0 3 [[D.v (Value.int IntKind.i64 5), D.v (Value.int IntKind.i64 0), D.v (Value.int IntKind.i64 0)], [D.v (Value.int IntKind.i64 6), D.v (Value.int IntKind.i64 0), D.v (Value.int IntKind.i64 0)]] [], D.s 0 3 [[D.v (Value.int IntKind.i64 7), D.v (Value.int IntKind.i64 0), D.v (Value.int IntKind.i64 0)]] [], D.s 0 3 [] [], D.s 0 3 [[D.v (Value.int IntKind.i64 9), D.v (Value.int IntKind.i64 0), D.v (Value.int IntKind.i64 0)]] [], D.v (Value.int IntKind.i64 0), D.v (Value.int IntKind.i64 0), D.v (Value.int IntKind.i64 0), D.v (Value.int IntKind.i64 0), D.v (Value.int IntKind.i64 9), D.s 0 17 [[D.v (Value.int IntKind.i64 3), D.v (Value.int IntKind.i64 0), D.v (Value.int IntKind.i64 3), D.s 0 4 [[D.v (Value.int IntKind.i64 2), D.v (Value.int IntKind.i64 0), D.v (Value.int IntKind.i64 0), D.v (Value.int IntKind.i64 0)], [D.v (Value.int IntKind.i64 1), D.v (Value.int IntKind.i64 0), D.v (Value.int IntKind.i64 0), D.v (Value.int IntKind.i64 0)], [D.v (Value.int IntKind.i64 3), D.v (Value.int IntKind.i64 0), D.v (Value.int IntKind.i64 0), D.v (Value.int IntKind.i64 0)]] [], D.v (Value.int IntKind.i64 0), D.v (Value.int IntKind.i64 0), D.v (Value.int IntKind.i64 0), D.v (Value.int IntKind.i64 0), D.v (Value.int IntKind.i64 0), D.v (Value.int IntKind.i64 0), D.s 0 3 [] [], D.s 0 3 [] [], D.v (Value.int IntKind.i64 0), D.v (Value.int IntKind.i64 0), D.v (Value.int IntKind.i64 0), D.v (Value.int IntKind.i64 0), D.v (Value.int IntKind.i64 0)], [D.v (Value.int IntKind.i64 5), D.v (Value.int IntKind.i64 1), D.v (Value.int IntKind.i64 1), D.s 0 4 [[D.v (Value.int IntKind.i64 2), D.v (Value.int IntKind.i64 0), D.v (Value.int IntKind.i64 0), D.v (Value.int IntKind.i64 1)], [D.v (Value.int IntKind.i64 3), D.v (Value.int IntKind.i64 0), D.v (Value.int IntKind.i64 1), D.v (Value.int IntKind.i64 0)]] [], D.v (Value.int IntKind.i64 0), D.v (Value.int IntKind.i64 0), D.v (Value.int IntKind.i64 0), D.v (Value.int IntKind.i64 0), D.v (Value.int IntKind.i64 0), D.v (Value.int IntKind.i64 0), D.s 0 3 [] [], D.s 0 3 [] [], D.v (Value.int IntKind.i64 0), D.v (Value.int IntKind.i64 0), D.v (Value.int IntKind.i64 0), D.v (Value.int IntKind.i64 0), D.v (Value.int IntKind.i64 0)]] [], D.s 0 4 [] []] := rfl
  rw [e]
  refine ct_m spC_ok .nil (.cons iRCopF_ok (.cons jRun_ok .nil)) mixed Tryz.func79 rfl rfl rfl ?_
  rw [eSt1]
  exact ⟨rfl⟩
theorem eSt2 (K : DV → Prop) : (askH Tryz.prog (hkM spC [] [(58, iRCopF), (128, jRun)]) Tryz.f79 [.agg [D.s 0 3 [[D.v (Value.int IntKind.i64 5), D.v (Value.int IntKind.i64 0), D.v (Value.int IntKind.i64 0)], [D.v (Value.int IntKind.i64 6), D.v (Value.int IntKind.i64 0), D.v (Value.int IntKind.i64 0)]] [], D.s 0 3 [[D.v (Value.int IntKind.i64 7), D.v (Value.int IntKind.i64 0), D.v (Value.int IntKind.i64 0)]] [], D.s 0 3 [] [], D.s 0 3 [[D.v (Value.int IntKind.i64 9), D.v (Value.int IntKind.i64 0), D.v (Value.int IntKind.i64 0)]] [], D.v (Value.int IntKind.i64 0), D.v (Value.int IntKind.i64 0), D.v (Value.int IntKind.i64 0), D.v (Value.int IntKind.i64 0), D.v (Value.int IntKind.i64 9), D.s 0 17 [[D.v (Value.int IntKind.i64 3), D.v (Value.int IntKind.i64 0), D.v (Value.int IntKind.i64 3), D.s 0 4 [[D.v (Value.int IntKind.i64 2), D.v (Value.int IntKind.i64 0), D.v (Value.int IntKind.i64 0), D.v (Value.int IntKind.i64 0)], [D.v (Value.int IntKind.i64 1), D.v (Value.int IntKind.i64 0), D.v (Value.int IntKind.i64 0), D.v (Value.int IntKind.i64 0)], [D.v (Value.int IntKind.i64 3), D.v (Value.int IntKind.i64 0), D.v (Value.int IntKind.i64 0), D.v (Value.int IntKind.i64 0)]] [], D.v (Value.int IntKind.i64 0), D.v (Value.int IntKind.i64 1), D.v (Value.int IntKind.i64 5), D.v (Value.int IntKind.i64 0), D.v (Value.int IntKind.i64 0), D.v (Value.int IntKind.i64 0), D.s 0 3 [[D.v (Value.int IntKind.i64 0), D.v (Value.int IntKind.i64 0), D.v (Value.int IntKind.i64 0)]] [], D.s 0 3 [] [], D.v (Value.int IntKind.i64 0), D.v (Value.int IntKind.i64 0), D.v (Value.int IntKind.i64 0), D.v (Value.int IntKind.i64 0), D.v (Value.int IntKind.i64 0)], [D.v (Value.int IntKind.i64 5), D.v (Value.int IntKind.i64 1), D.v (Value.int IntKind.i64 1), D.s 0 4 [[D.v (Value.int IntKind.i64 2), D.v (Value.int IntKind.i64 0), D.v (Value.int IntKind.i64 0), D.v (Value.int IntKind.i64 1)], [D.v (Value.int IntKind.i64 3), D.v (Value.int IntKind.i64 0), D.v (Value.int IntKind.i64 1), D.v (Value.int IntKind.i64 0)]] [], D.v (Value.int IntKind.i64 0), D.v (Value.int IntKind.i64 0), D.v (Value.int IntKind.i64 0), D.v (Value.int IntKind.i64 0), D.v (Value.int IntKind.i64 0), D.v (Value.int IntKind.i64 0), D.s 0 3 [] [], D.s 0 3 [] [], D.v (Value.int IntKind.i64 0), D.v (Value.int IntKind.i64 0), D.v (Value.int IntKind.i64 0), D.v (Value.int IntKind.i64 0), D.v (Value.int IntKind.i64 0)]] [], D.s 0 4 [[D.v (Value.int IntKind.i64 3), D.v (Value.int IntKind.i64 0), D.v (Value.int IntKind.i64 0), D.v (Value.int IntKind.i64 5)]] []], I 0] K) = (K (DV.tup [DV.agg (macLR (1) ⟨[[vN (5), vN (0), vN (0)], [vN (6), vN (0), vN (0)]], [[vN (7), vN (0), vN (0)]], [], [[vN (9), vN (0), vN (0)]], (0), (0), (0), (0), (9), [[vN (3), vN (0), vN (0), vN (5)]]⟩ [(sesL (1) ⟨(3), (0), (3), [[vN (2), vN (0), vN (0), vN (0)], [vN (1), vN (0), vN (0), vN (0)], [vN (3), vN (0), vN (0), vN (0)]], (0), (2), (10), (0), (0), (0), [[vN (0), vN (0), vN (0)]], [], (0), (0), (0), (0), (0)⟩), (sesL (1) ⟨(5), (1), (1), [[vN (2), vN (0), vN (0), vN (1)], [vN (3), vN (0), vN (1), vN (0)]], (0), (0), (0), (0), (0), (0), [], [], (0), (0), (0), (0), (0)⟩)]), I (0)])) := by kernel_rfl
theorem cSt2 : CT Tryz.prog 79 [.agg (macL 0 bH1 [bA1, bB]), I 0] (macR bH2 [bA2, bB] 0) := by
  have e : macL 0 bH1 [bA1, bB] = [D.s 0 3 [[D.v (Value.int IntKind.i64 5), D.v (Value.int IntKind.i64 0), D.v (Value.int IntKind.i64 0)], [D.v (Value.int IntKind.i64 6), D.v (Value.int IntKind.i64 0), D.v (Value.int IntKind.i64 0)]] [], D.s 0 3 [[D.v (Value.int IntKind.i64 7), D.v (Value.int IntKind.i64 0), D.v (Value.int IntKind.i64 0)]] [], D.s 0 3 [] [], D.s 0 3 [[D.v (Value.int IntKind.i64 9), D.v (Value.int IntKind.i64 0), D.v (Value.int IntKind.i64 0)]] [], D.v (Value.int IntKind.i64 0), D.v (Value.int IntKind.i64 0), D.v (Value.int IntKind.i64 0), D.v (Value.int IntKind.i64 0), D.v (Value.int IntKind.i64 9), D.s 0 17 [[D.v (Value.int IntKind.i64 3), D.v (Value.int IntKind.i64 0), D.v (Value.int IntKind.i64 3), D.s 0 4 [[D.v (Value.int IntKind.i64 2), D.v (Value.int IntKind.i64 0), D.v (Value.int IntKind.i64 0), D.v (Value.int IntKind.i64 0)], [D.v (Value.int IntKind.i64 1), D.v (Value.int IntKind.i64 0), D.v (Value.int IntKind.i64 0), D.v (Value.int IntKind.i64 0)], [D.v (Value.int IntKind.i64 3), D.v (Value.int IntKind.i64 0), D.v (Value.int IntKind.i64 0), D.v (Value.int IntKind.i64 0)]] [], D.v (Value.int IntKind.i64 0), D.v (Value.int IntKind.i64 1), D.v (Value.int IntKind.i64 5), D.v (Value.int IntKind.i64 0), D.v (Value.int IntKind.i64 0), D.v (Value.int IntKind.i64 0), D.s 0 3 [[D.v (Value.int IntKind.i64 0), D.v (Value.int IntKind.i64 0), D.v (Value.int IntKind.i64 0)]] [], D.s 0 3 [] [], D.v (Value.int IntKind.i64 0), D.v (Value.int IntKind.i64 0), D.v (Value.int IntKind.i64 0), D.v (Value.int IntKind.i64 0), D.v (Value.int IntKind.i64 0)], [D.v (Value.int IntKind.i64 5), D.v (Value.int IntKind.i64 1), D.v (Value.int IntKind.i64 1), D.s 0 4 [[D.v (Value.int IntKind.i64 2), D.v (Value.int IntKind.i64 0), D.v (Value.int IntKind.i64 0), D.v (Value.int IntKind.i64 1)], [D.v (Value.int IntKind.i64 3), D.v (Value.int IntKind.i64 0), D.v (Value.int IntKind.i64 1), D.v (Value.int IntKind.i64 0)]] [], D.v (Value.int IntKind.i64 0), D.v (Value.int IntKind.i64 0), D.v (Value.int IntKind.i64 0), D.v (Value.int IntKind.i64 0), D.v (Value.int IntKind.i64 0), D.v (Value.int IntKind.i64 0), D.s 0 3 [] [], D.s 0 3 [] [], D.v (Value.int IntKind.i64 0), D.v (Value.int IntKind.i64 0), D.v (Value.int IntKind.i64 0), D.v (Value.int IntKind.i64 0), D.v (Value.int IntKind.i64 0)]] [], D.s 0 4 [[D.v (Value.int IntKind.i64 3), D.v (Value.int IntKind.i64 0), D.v (Value.int IntKind.i64 0), D.v (Value.int IntKind.i64 5)]] []] := rfl
  rw [e]
  refine ct_m spC_ok .nil (.cons iRCopF_ok (.cons jRun_ok .nil)) mixed Tryz.func79 rfl rfl rfl ?_
  rw [eSt2]
  exact ⟨rfl⟩
theorem eSt3 (K : DV → Prop) : (askH Tryz.prog (hkM spC [] [(58, iRCopF), (128, jRun)]) Tryz.f79 [.agg [D.s 0 3 [[D.v (Value.int IntKind.i64 5), D.v (Value.int IntKind.i64 0), D.v (Value.int IntKind.i64 0)], [D.v (Value.int IntKind.i64 6), D.v (Value.int IntKind.i64 0), D.v (Value.int IntKind.i64 0)]] [], D.s 0 3 [[D.v (Value.int IntKind.i64 7), D.v (Value.int IntKind.i64 0), D.v (Value.int IntKind.i64 0)]] [], D.s 0 3 [] [], D.s 0 3 [[D.v (Value.int IntKind.i64 9), D.v (Value.int IntKind.i64 0), D.v (Value.int IntKind.i64 0)]] [], D.v (Value.int IntKind.i64 0), D.v (Value.int IntKind.i64 0), D.v (Value.int IntKind.i64 0), D.v (Value.int IntKind.i64 0), D.v (Value.int IntKind.i64 9), D.s 0 17 [[D.v (Value.int IntKind.i64 3), D.v (Value.int IntKind.i64 0), D.v (Value.int IntKind.i64 3), D.s 0 4 [[D.v (Value.int IntKind.i64 2), D.v (Value.int IntKind.i64 0), D.v (Value.int IntKind.i64 0), D.v (Value.int IntKind.i64 0)], [D.v (Value.int IntKind.i64 1), D.v (Value.int IntKind.i64 0), D.v (Value.int IntKind.i64 0), D.v (Value.int IntKind.i64 0)], [D.v (Value.int IntKind.i64 3), D.v (Value.int IntKind.i64 0), D.v (Value.int IntKind.i64 0), D.v (Value.int IntKind.i64 0)]] [], D.v (Value.int IntKind.i64 0), D.v (Value.int IntKind.i64 2), D.v (Value.int IntKind.i64 10), D.v (Value.int IntKind.i64 0), D.v (Value.int IntKind.i64 0), D.v (Value.int IntKind.i64 0), D.s 0 3 [[D.v (Value.int IntKind.i64 0), D.v (Value.int IntKind.i64 0), D.v (Value.int IntKind.i64 0)]] [], D.s 0 3 [] [], D.v (Value.int IntKind.i64 0), D.v (Value.int IntKind.i64 0), D.v (Value.int IntKind.i64 0), D.v (Value.int IntKind.i64 0), D.v (Value.int IntKind.i64 0)], [D.v (Value.int IntKind.i64 5), D.v (Value.int IntKind.i64 1), D.v (Value.int IntKind.i64 1), D.s 0 4 [[D.v (Value.int IntKind.i64 2), D.v (Value.int IntKind.i64 0), D.v (Value.int IntKind.i64 0), D.v (Value.int IntKind.i64 1)], [D.v (Value.int IntKind.i64 3), D.v (Value.int IntKind.i64 0), D.v (Value.int IntKind.i64 1), D.v (Value.int IntKind.i64 0)]] [], D.v (Value.int IntKind.i64 0), D.v (Value.int IntKind.i64 0), D.v (Value.int IntKind.i64 0), D.v (Value.int IntKind.i64 0), D.v (Value.int IntKind.i64 0), D.v (Value.int IntKind.i64 0), D.s 0 3 [] [], D.s 0 3 [] [], D.v (Value.int IntKind.i64 0), D.v (Value.int IntKind.i64 0), D.v (Value.int IntKind.i64 0), D.v (Value.int IntKind.i64 0), D.v (Value.int IntKind.i64 0)]] [], D.s 0 4 [[D.v (Value.int IntKind.i64 3), D.v (Value.int IntKind.i64 0), D.v (Value.int IntKind.i64 0), D.v (Value.int IntKind.i64 5)]] []], I 0] K) = (K (DV.tup [DV.agg (macLR (1) ⟨[[vN (5), vN (0), vN (0)], [vN (6), vN (0), vN (0)]], [[vN (7), vN (0), vN (0)]], [], [[vN (9), vN (0), vN (0)]], (0), (0), (0), (0), (9), [[vN (3), vN (0), vN (0), vN (5)], [vN (3), vN (0), vN (1), vN (10)]]⟩ [(sesL (1) ⟨(3), (0), (3), [[vN (2), vN (0), vN (0), vN (0)], [vN (1), vN (0), vN (0), vN (0)], [vN (3), vN (0), vN (0), vN (0)]], (0), (3), (10), (0), (0), (0), [[vN (0), vN (0), vN (0)]], [[vN (0), vN (0), vN (10)]], (0), (0), (0), (0), (0)⟩), (sesL (1) ⟨(5), (1), (1), [[vN (2), vN (0), vN (0), vN (1)], [vN (3), vN (0), vN (1), vN (0)]], (0), (0), (0), (0), (0), (0), [], [], (0), (0), (0), (0), (0)⟩)]), I (0)])) := by kernel_rfl
theorem cSt3 : CT Tryz.prog 79 [.agg (macL 0 bH2 [bA2, bB]), I 0] (macR bH3 [bA3, bB] 0) := by
  have e : macL 0 bH2 [bA2, bB] = [D.s 0 3 [[D.v (Value.int IntKind.i64 5), D.v (Value.int IntKind.i64 0), D.v (Value.int IntKind.i64 0)], [D.v (Value.int IntKind.i64 6), D.v (Value.int IntKind.i64 0), D.v (Value.int IntKind.i64 0)]] [], D.s 0 3 [[D.v (Value.int IntKind.i64 7), D.v (Value.int IntKind.i64 0), D.v (Value.int IntKind.i64 0)]] [], D.s 0 3 [] [], D.s 0 3 [[D.v (Value.int IntKind.i64 9), D.v (Value.int IntKind.i64 0), D.v (Value.int IntKind.i64 0)]] [], D.v (Value.int IntKind.i64 0), D.v (Value.int IntKind.i64 0), D.v (Value.int IntKind.i64 0), D.v (Value.int IntKind.i64 0), D.v (Value.int IntKind.i64 9), D.s 0 17 [[D.v (Value.int IntKind.i64 3), D.v (Value.int IntKind.i64 0), D.v (Value.int IntKind.i64 3), D.s 0 4 [[D.v (Value.int IntKind.i64 2), D.v (Value.int IntKind.i64 0), D.v (Value.int IntKind.i64 0), D.v (Value.int IntKind.i64 0)], [D.v (Value.int IntKind.i64 1), D.v (Value.int IntKind.i64 0), D.v (Value.int IntKind.i64 0), D.v (Value.int IntKind.i64 0)], [D.v (Value.int IntKind.i64 3), D.v (Value.int IntKind.i64 0), D.v (Value.int IntKind.i64 0), D.v (Value.int IntKind.i64 0)]] [], D.v (Value.int IntKind.i64 0), D.v (Value.int IntKind.i64 2), D.v (Value.int IntKind.i64 10), D.v (Value.int IntKind.i64 0), D.v (Value.int IntKind.i64 0), D.v (Value.int IntKind.i64 0), D.s 0 3 [[D.v (Value.int IntKind.i64 0), D.v (Value.int IntKind.i64 0), D.v (Value.int IntKind.i64 0)]] [], D.s 0 3 [] [], D.v (Value.int IntKind.i64 0), D.v (Value.int IntKind.i64 0), D.v (Value.int IntKind.i64 0), D.v (Value.int IntKind.i64 0), D.v (Value.int IntKind.i64 0)], [D.v (Value.int IntKind.i64 5), D.v (Value.int IntKind.i64 1), D.v (Value.int IntKind.i64 1), D.s 0 4 [[D.v (Value.int IntKind.i64 2), D.v (Value.int IntKind.i64 0), D.v (Value.int IntKind.i64 0), D.v (Value.int IntKind.i64 1)], [D.v (Value.int IntKind.i64 3), D.v (Value.int IntKind.i64 0), D.v (Value.int IntKind.i64 1), D.v (Value.int IntKind.i64 0)]] [], D.v (Value.int IntKind.i64 0), D.v (Value.int IntKind.i64 0), D.v (Value.int IntKind.i64 0), D.v (Value.int IntKind.i64 0), D.v (Value.int IntKind.i64 0), D.v (Value.int IntKind.i64 0), D.s 0 3 [] [], D.s 0 3 [] [], D.v (Value.int IntKind.i64 0), D.v (Value.int IntKind.i64 0), D.v (Value.int IntKind.i64 0), D.v (Value.int IntKind.i64 0), D.v (Value.int IntKind.i64 0)]] [], D.s 0 4 [[D.v (Value.int IntKind.i64 3), D.v (Value.int IntKind.i64 0), D.v (Value.int IntKind.i64 0), D.v (Value.int IntKind.i64 5)]] []] := rfl
  rw [e]
  refine ct_m spC_ok .nil (.cons iRCopF_ok (.cons jRun_ok .nil)) mixed Tryz.func79 rfl rfl rfl ?_
  rw [eSt3]
  exact ⟨rfl⟩
theorem eSt4 (K : DV → Prop) : (askH Tryz.prog (hkM spC [] [(58, iRCopF), (128, jRun)]) Tryz.f79 [.agg [D.s 0 3 [[D.v (Value.int IntKind.i64 5), D.v (Value.int IntKind.i64 0), D.v (Value.int IntKind.i64 0)], [D.v (Value.int IntKind.i64 6), D.v (Value.int IntKind.i64 0), D.v (Value.int IntKind.i64 0)]] [], D.s 0 3 [[D.v (Value.int IntKind.i64 7), D.v (Value.int IntKind.i64 0), D.v (Value.int IntKind.i64 0)]] [], D.s 0 3 [] [], D.s 0 3 [[D.v (Value.int IntKind.i64 9), D.v (Value.int IntKind.i64 0), D.v (Value.int IntKind.i64 0)]] [], D.v (Value.int IntKind.i64 0), D.v (Value.int IntKind.i64 0), D.v (Value.int IntKind.i64 0), D.v (Value.int IntKind.i64 0), D.v (Value.int IntKind.i64 9), D.s 0 17 [[D.v (Value.int IntKind.i64 3), D.v (Value.int IntKind.i64 0), D.v (Value.int IntKind.i64 3), D.s 0 4 [[D.v (Value.int IntKind.i64 2), D.v (Value.int IntKind.i64 0), D.v (Value.int IntKind.i64 0), D.v (Value.int IntKind.i64 0)], [D.v (Value.int IntKind.i64 1), D.v (Value.int IntKind.i64 0), D.v (Value.int IntKind.i64 0), D.v (Value.int IntKind.i64 0)], [D.v (Value.int IntKind.i64 3), D.v (Value.int IntKind.i64 0), D.v (Value.int IntKind.i64 0), D.v (Value.int IntKind.i64 0)]] [], D.v (Value.int IntKind.i64 0), D.v (Value.int IntKind.i64 3), D.v (Value.int IntKind.i64 10), D.v (Value.int IntKind.i64 0), D.v (Value.int IntKind.i64 0), D.v (Value.int IntKind.i64 0), D.s 0 3 [[D.v (Value.int IntKind.i64 0), D.v (Value.int IntKind.i64 0), D.v (Value.int IntKind.i64 0)]] [], D.s 0 3 [[D.v (Value.int IntKind.i64 0), D.v (Value.int IntKind.i64 0), D.v (Value.int IntKind.i64 10)]] [], D.v (Value.int IntKind.i64 0), D.v (Value.int IntKind.i64 0), D.v (Value.int IntKind.i64 0), D.v (Value.int IntKind.i64 0), D.v (Value.int IntKind.i64 0)], [D.v (Value.int IntKind.i64 5), D.v (Value.int IntKind.i64 1), D.v (Value.int IntKind.i64 1), D.s 0 4 [[D.v (Value.int IntKind.i64 2), D.v (Value.int IntKind.i64 0), D.v (Value.int IntKind.i64 0), D.v (Value.int IntKind.i64 1)], [D.v (Value.int IntKind.i64 3), D.v (Value.int IntKind.i64 0), D.v (Value.int IntKind.i64 1), D.v (Value.int IntKind.i64 0)]] [], D.v (Value.int IntKind.i64 0), D.v (Value.int IntKind.i64 0), D.v (Value.int IntKind.i64 0), D.v (Value.int IntKind.i64 0), D.v (Value.int IntKind.i64 0), D.v (Value.int IntKind.i64 0), D.s 0 3 [] [], D.s 0 3 [] [], D.v (Value.int IntKind.i64 0), D.v (Value.int IntKind.i64 0), D.v (Value.int IntKind.i64 0), D.v (Value.int IntKind.i64 0), D.v (Value.int IntKind.i64 0)]] [], D.s 0 4 [[D.v (Value.int IntKind.i64 3), D.v (Value.int IntKind.i64 0), D.v (Value.int IntKind.i64 0), D.v (Value.int IntKind.i64 5)], [D.v (Value.int IntKind.i64 3), D.v (Value.int IntKind.i64 0), D.v (Value.int IntKind.i64 1), D.v (Value.int IntKind.i64 10)]] []], I 0] K) = (K (DV.tup [DV.agg (macLR (1) ⟨[[vN (5), vN (0), vN (0)], [vN (6), vN (0), vN (0)]], [[vN (7), vN (0), vN (0)]], [], [[vN (9), vN (0), vN (0)]], (0), (0), (0), (0), (9), [[vN (3), vN (0), vN (0), vN (5)], [vN (3), vN (0), vN (1), vN (10)]]⟩ [(sesL (1) ⟨(3), (0), (3), [[vN (2), vN (0), vN (0), vN (0)], [vN (1), vN (0), vN (0), vN (0)], [vN (3), vN (0), vN (0), vN (0)]], (1), (3), (10), (0), (0), (0), [[vN (0), vN (0), vN (0)]], [[vN (0), vN (0), vN (10)]], (0), (0), (0), (0), (0)⟩), (sesL (1) ⟨(5), (1), (1), [[vN (2), vN (0), vN (0), vN (1)], [vN (3), vN (0), vN (1), vN (0)]], (0), (0), (0), (0), (0), (0), [], [], (0), (0), (0), (0), (0)⟩)]), I (0)])) := by kernel_rfl
theorem cSt4 : CT Tryz.prog 79 [.agg (macL 0 bH3 [bA3, bB]), I 0] (macR bH4 [bA4, bB] 0) := by
  have e : macL 0 bH3 [bA3, bB] = [D.s 0 3 [[D.v (Value.int IntKind.i64 5), D.v (Value.int IntKind.i64 0), D.v (Value.int IntKind.i64 0)], [D.v (Value.int IntKind.i64 6), D.v (Value.int IntKind.i64 0), D.v (Value.int IntKind.i64 0)]] [], D.s 0 3 [[D.v (Value.int IntKind.i64 7), D.v (Value.int IntKind.i64 0), D.v (Value.int IntKind.i64 0)]] [], D.s 0 3 [] [], D.s 0 3 [[D.v (Value.int IntKind.i64 9), D.v (Value.int IntKind.i64 0), D.v (Value.int IntKind.i64 0)]] [], D.v (Value.int IntKind.i64 0), D.v (Value.int IntKind.i64 0), D.v (Value.int IntKind.i64 0), D.v (Value.int IntKind.i64 0), D.v (Value.int IntKind.i64 9), D.s 0 17 [[D.v (Value.int IntKind.i64 3), D.v (Value.int IntKind.i64 0), D.v (Value.int IntKind.i64 3), D.s 0 4 [[D.v (Value.int IntKind.i64 2), D.v (Value.int IntKind.i64 0), D.v (Value.int IntKind.i64 0), D.v (Value.int IntKind.i64 0)], [D.v (Value.int IntKind.i64 1), D.v (Value.int IntKind.i64 0), D.v (Value.int IntKind.i64 0), D.v (Value.int IntKind.i64 0)], [D.v (Value.int IntKind.i64 3), D.v (Value.int IntKind.i64 0), D.v (Value.int IntKind.i64 0), D.v (Value.int IntKind.i64 0)]] [], D.v (Value.int IntKind.i64 0), D.v (Value.int IntKind.i64 3), D.v (Value.int IntKind.i64 10), D.v (Value.int IntKind.i64 0), D.v (Value.int IntKind.i64 0), D.v (Value.int IntKind.i64 0), D.s 0 3 [[D.v (Value.int IntKind.i64 0), D.v (Value.int IntKind.i64 0), D.v (Value.int IntKind.i64 0)]] [], D.s 0 3 [[D.v (Value.int IntKind.i64 0), D.v (Value.int IntKind.i64 0), D.v (Value.int IntKind.i64 10)]] [], D.v (Value.int IntKind.i64 0), D.v (Value.int IntKind.i64 0), D.v (Value.int IntKind.i64 0), D.v (Value.int IntKind.i64 0), D.v (Value.int IntKind.i64 0)], [D.v (Value.int IntKind.i64 5), D.v (Value.int IntKind.i64 1), D.v (Value.int IntKind.i64 1), D.s 0 4 [[D.v (Value.int IntKind.i64 2), D.v (Value.int IntKind.i64 0), D.v (Value.int IntKind.i64 0), D.v (Value.int IntKind.i64 1)], [D.v (Value.int IntKind.i64 3), D.v (Value.int IntKind.i64 0), D.v (Value.int IntKind.i64 1), D.v (Value.int IntKind.i64 0)]] [], D.v (Value.int IntKind.i64 0), D.v (Value.int IntKind.i64 0), D.v (Value.int IntKind.i64 0), D.v (Value.int IntKind.i64 0), D.v (Value.int IntKind.i64 0), D.v (Value.int IntKind.i64 0), D.s 0 3 [] [], D.s 0 3 [] [], D.v (Value.int IntKind.i64 0), D.v (Value.int IntKind.i64 0), D.v (Value.int IntKind.i64 0), D.v (Value.int IntKind.i64 0), D.v (Value.int IntKind.i64 0)]] [], D.s 0 4 [[D.v (Value.int IntKind.i64 3), D.v (Value.int IntKind.i64 0), D.v (Value.int IntKind.i64 0), D.v (Value.int IntKind.i64 5)], [D.v (Value.int IntKind.i64 3), D.v (Value.int IntKind.i64 0), D.v (Value.int IntKind.i64 1), D.v (Value.int IntKind.i64 10)]] []] := rfl
  rw [e]
  refine ct_m spC_ok .nil (.cons iRCopF_ok (.cons jRun_ok .nil)) mixed Tryz.func79 rfl rfl rfl ?_
  rw [eSt4]
  exact ⟨rfl⟩
theorem iRNew_ok : InlOK Tryz.prog 21 iRNew := inlM_ok (.cons oRNewL (.cons oRSNewL (.cons oRMm .nil))) .nil .nil mixed Tryz.func21 rfl (goes_of Tryz.func21 (by kernel_rfl) rfl)
theorem eBeg16 (K : DV → Prop) : (askH Tryz.prog (hkM [] [] [(21, iRNew)]) Tryz.f44 [] K) = (K (DV.agg [D.s (1) (3) [[vN (5), vN (0), vN (0)], [vN (6), vN (0), vN (0)]] [], D.s (1) (3) [[vN (7), vN (0), vN (0)]] [], D.s (1) (3) [] [], D.s (1) (3) [[vN (9), vN (0), vN (0)]] [], vN (0), vN (0), vN (0), vN (0), vN (9), D.s (1) (17) [[vN (3), vN (0), vN (3), D.s (1) (4) [[vN (2), vN (0), vN (0), vN (0)], [vN (1), vN (0), vN (0), vN (0)], [vN (3), vN (0), vN (0), vN (0)]] [], vN (0), vN (0), vN (0), vN (0), vN (0), vN (0), nilV, nilV, vN (0), vN (0), vN (0), vN (0), vN (0)], [vN (5), vN (1), vN (1), D.s (1) (4) [[vN (2), vN (0), vN (0), vN (1)], [vN (3), vN (0), vN (1), vN (0)]] [], vN (0), vN (0), vN (0), vN (0), vN (0), vN (0), nilV, nilV, vN (0), vN (0), vN (0), vN (0), vN (0)]] [], nilV])) := by kernel_rfl
theorem cBeg16 : CT Tryz.prog 44 [] (.agg (macL 1 bH0 [bA0, bB])) := by
  refine ct_mA .nil .nil (.cons iRNew_ok .nil) mixed Tryz.func44 rfl rfl rfl ?_
  rw [eBeg16]
  refine ⟨.aggO ?_⟩
  repeat (first | exact .nil | exact OL.refl _ | exact OL.nil _ | refine .cons ?_ ?_ | refine OL.rows ?_)
end

section
set_option maxHeartbeats 2000000
open Go Go.Proofs
set_option linter.unusedSimpArgs false
set_option linter.unusedVariables false
set_option maxRecDepth 100000
def sStp : Spec := fun ds Q => match ds with
  | [d, _] => macA d fun _ ss => match ss with
    | [a, _] => bif a.st == 0 then (bif a.pc == 0 then sAtD [.agg (macL 0 bH0 [bA0, bB]), I 0] (macR bH1 [bA1, bB] 0) ds Q else bif a.pc == 1 then sAtD [.agg (macL 0 bH1 [bA1, bB]), I 0] (macR bH2 [bA2, bB] 0) ds Q else bif a.pc == 2 then sAtD [.agg (macL 0 bH2 [bA2, bB]), I 0] (macR bH3 [bA3, bB] 0) ds Q else sAtD [.agg (macL 0 bH3 [bA3, bB]), I 0] (macR bH4 [bA4, bB] 0) ds Q) else False
    | _ => False
  | _ => False
theorem gStp : Goes Tryz.prog 79 := goes_of Tryz.func79 (by kernel_rfl) rfl
theorem oStp : SpecOK Tryz.prog 79 sStp := fun ds Q h => by
  unfold sStp at h; split at h
  · obtain ⟨m, ss, h, _⟩ := macA_spec h
    split at h
    · rename_i a _ _
      cases h1 : a.st == 0
      · rw [h1] at h; exact h.elim
      · rw [h1] at h
        cases h2 : a.pc == 0
        · cases h3 : a.pc == 1
          · cases h4 : a.pc == 2
            · rw [h2, h3, h4] at h; exact oAtD gStp cSt4 rfl rfl _ Q h
            · rw [h2, h3, h4] at h; exact oAtD gStp cSt3 rfl rfl _ Q h
          · rw [h2, h3] at h; exact oAtD gStp cSt2 rfl rfl _ Q h
        · rw [h2] at h; exact oAtD gStp cSt1 rfl rfl _ Q h
    · exact h.elim
  · exact h.elim
def iStp : Inl := callB Tryz.prog [34, 3] (sF sStp)
theorem iStp_ok : InlOK Tryz.prog 79 iStp := callB_ok (oF oStp)
def iBeg : Inl := callB Tryz.prog [] (sF (sAtD [] (.agg (macL 1 bH0 [bA0, bB]))))
theorem iBeg16_ok : InlOK Tryz.prog 44 iBeg := callB_ok (oF (oAtD (goes_of Tryz.func44 (by kernel_rfl) rfl) cBeg16 rfl rfl))
theorem eStd16_2 (K : DV → Prop) : (askH Tryz.prog (hkM [] [] [(44, iBeg), (79, iStp)]) Tryz.f43 [I 0, I 2] K) = (([] : List DV) = [] ∧ [DV.agg (macL (0) bH0 [bA0, bB]), I (0)] = [DV.agg (macL (0) bH0 [bA0, bB]), I (0)] ∧ [DV.agg (macL (0) bH1 [bA1, bB]), I (0)] = [DV.agg (macL (0) bH1 [bA1, bB]), I (0)] ∧ K (DV.agg [D.s (1) (3) [[D.v (Value.int IntKind.i64 (5)), D.v (Value.int IntKind.i64 (0)), D.v (Value.int IntKind.i64 (0))], [D.v (Value.int IntKind.i64 (6)), D.v (Value.int IntKind.i64 (0)), D.v (Value.int IntKind.i64 (0))]] [], D.s (1) (3) [[D.v (Value.int IntKind.i64 (7)), D.v (Value.int IntKind.i64 (0)), D.v (Value.int IntKind.i64 (0))]] [], D.s (1) (3) [] [], D.s (1) (3) [[D.v (Value.int IntKind.i64 (9)), D.v (Value.int IntKind.i64 (0)), D.v (Value.int IntKind.i64 (0))]] [], D.v (Value.int IntKind.i64 (0)), D.v (Value.int IntKind.i64 (0)), D.v (Value.int IntKind.i64 (0)), D.v (Value.int IntKind.i64 (0)), D.v (Value.int IntKind.i64 (9)), D.s (1) (17) [[D.v (Value.int IntKind.i64 (3)), D.v (Value.int IntKind.i64 (0)), D.v (Value.int IntKind.i64 (3)), D.s (1) (4) [[D.v (Value.int IntKind.i64 (2)), D.v (Value.int IntKind.i64 (0)), D.v (Value.int IntKind.i64 (0)), D.v (Value.int IntKind.i64 (0))], [D.v (Value.int IntKind.i64 (1)), D.v (Value.int IntKind.i64 (0)), D.v (Value.int IntKind.i64 (0)), D.v (Value.int IntKind.i64 (0))], [D.v (Value.int IntKind.i64 (3)), D.v (Value.int IntKind.i64 (0)), D.v (Value.int IntKind.i64 (0)), D.v (Value.int IntKind.i64 (0))]] [], D.v (Value.int IntKind.i64 (0)), D.v (Value.int IntKind.i64 (2)), D.v (Value.int IntKind.i64 (10)), D.v (Value.int IntKind.i64 (0)), D.v (Value.int IntKind.i64 (0)), D.v (Value.int IntKind.i64 (0)), D.s (1) (3) [[D.v (Value.int IntKind.i64 (0)), D.v (Value.int IntKind.i64 (0)), D.v (Value.int IntKind.i64 (0))]] [], D.s (1) (3) [] [], D.v (Value.int IntKind.i64 (0)), D.v (Value.int IntKind.i64 (0)), D.v (Value.int IntKind.i64 (0)), D.v (Value.int IntKind.i64 (0)), D.v (Value.int IntKind.i64 (0))], [D.v (Value.int IntKind.i64 (5)), D.v (Value.int IntKind.i64 (1)), D.v (Value.int IntKind.i64 (1)), D.s (1) (4) [[D.v (Value.int IntKind.i64 (2)), D.v (Value.int IntKind.i64 (0)), D.v (Value.int IntKind.i64 (0)), D.v (Value.int IntKind.i64 (1))], [D.v (Value.int IntKind.i64 (3)), D.v (Value.int IntKind.i64 (0)), D.v (Value.int IntKind.i64 (1)), D.v (Value.int IntKind.i64 (0))]] [], D.v (Value.int IntKind.i64 (0)), D.v (Value.int IntKind.i64 (0)), D.v (Value.int IntKind.i64 (0)), D.v (Value.int IntKind.i64 (0)), D.v (Value.int IntKind.i64 (0)), D.v (Value.int IntKind.i64 (0)), D.s (1) (3) [] [], D.s (1) (3) [] [], D.v (Value.int IntKind.i64 (0)), D.v (Value.int IntKind.i64 (0)), D.v (Value.int IntKind.i64 (0)), D.v (Value.int IntKind.i64 (0)), D.v (Value.int IntKind.i64 (0))]] [], D.s (1) (4) [[D.v (Value.int IntKind.i64 (3)), D.v (Value.int IntKind.i64 (0)), D.v (Value.int IntKind.i64 (0)), D.v (Value.int IntKind.i64 (5))]] []])) := by kernel_rfl
theorem cStd16_2 : CT Tryz.prog 43 [I 0, I 2] (.agg (macL 1 bH2 [bA2, bB])) := by
  refine ct_m .nil .nil (.cons iBeg16_ok (.cons iStp_ok .nil)) mixed Tryz.func43 rfl rfl rfl ?_
  rw [eStd16_2]
  exact ⟨by repeat (first | exact rfl | refine ⟨rfl, ?_⟩)⟩
end

section
set_option maxHeartbeats 2000000
open Go Go.Proofs
set_option linter.unusedSimpArgs false
set_option linter.unusedVariables false
set_option maxRecDepth 100000
theorem eSS (s s' : SesD) (K : DV → Prop) : (askW Tryz.prog (hkF [(77, sSameInsts), (42, sSameReads), (45, sSameWrites)] [] []) Tryz.f32 [.agg (sesL 0 s), .agg (sesL 0 s')] K) = (bif s.id == s'.id then bif s.lb == s'.lb then bif s.cl == s'.cl then bif okZ (4) s.pg && okZ (4) s'.pg then bif decide (toZ s.pg = toZ s'.pg) then bif s.st == s'.st then bif s.pc == s'.pc then bif eqI [s.r0, s.r1, s.r2, s.r3] [s'.r0, s'.r1, s'.r2, s'.r3] then bif okZ (3) s.rd && okZ (3) s'.rd then bif decide (toZ s.rd = toZ s'.rd) then bif okZ (3) s.wt && okZ (3) s'.wt then bif decide (toZ s.wt = toZ s'.wt) then bif s.at' == s'.at' then bif s.sp == s'.sp then bif s.tr == s'.tr then bif s.rs == s'.rs then K (B (s.to == s'.to)) else K (B false) else K (B false) else K (B false) else K (B false) else K (B false) else False else K (B false) else False else K (B false) else K (B false) else K (B false) else K (B false) else False else K (B false) else K (B false) else K (B false)) := by kernel_rfl
def sameS (s s' : SesD) : Bool := bif s.id == s'.id then bif s.lb == s'.lb then bif s.cl == s'.cl then bif decide (toZ s.pg = toZ s'.pg) then bif s.st == s'.st then bif s.pc == s'.pc then bif eqI [s.r0, s.r1, s.r2, s.r3] [s'.r0, s'.r1, s'.r2, s'.r3] then bif decide (toZ s.rd = toZ s'.rd) then bif decide (toZ s.wt = toZ s'.wt) then bif s.at' == s'.at' then bif s.sp == s'.sp then bif s.tr == s'.tr then bif s.rs == s'.rs then s.to == s'.to else false else false else false else false else false else false else false else false else false else false else false else false else false
theorem cSS (s s' : SesD) (h : okSes s = true) (h' : okSes s' = true) : CT Tryz.prog 32 [.agg (sesL 0 s), .agg (sesL 0 s')] (B (sameS s s')) := by
  refine ct_wF (.cons oSameInsts (.cons oSameReads (.cons oSameWrites .nil))) .nil .nil mixed Tryz.func32 rfl rfl rfl ?_
  rw [eSS]
  refine ⟨?_⟩
  obtain ⟨a1, a2, a3⟩ := okSes_z h
  obtain ⟨b1, b2, b3⟩ := okSes_z h'
  simp only [a1, a2, a3, b1, b2, b3, Bool.and_self, cond_true, bifAL]
  exact AL.refl _
theorem eqI4 {a b c d a' b' c' d' : Int} : eqI [a, b, c, d] [a', b', c', d'] = true ↔ a = a' ∧ b = b' ∧ c = c' ∧ d = d' := by
  simp only [eqI, Bool.and_eq_true, beq_iff_eq, and_true]
theorem cond_tt {p q : Bool} : (bif p then q else false) = true ↔ p = true ∧ q = true := by cases p <;> simp
theorem toZ_inj {z : Nat} {R S : List (List D)} (h : okZ z R = true) (h' : okZ z S = true) (e : toZ R = toZ S) : R = S := by
  rw [(okZ_spec h).1, (okZ_spec h').1, e]
theorem sameS_eq {s s' : SesD} (h : okSes s = true) (h' : okSes s' = true) : sameS s s' = true ↔ s = s' := by
  obtain ⟨a1, a2, a3⟩ := okSes_z h
  obtain ⟨b1, b2, b3⟩ := okSes_z h'
  unfold sameS
  simp only [cond_tt, eqI4, beq_iff_eq, decide_eq_true_eq]
  constructor
  · rintro ⟨e0, e1, e2, e3, e4, e5, ⟨e6, e7, e8, e9⟩, e10, e11, e12, e13, e14, e15, e16⟩
    have e3 := toZ_inj a1 b1 e3
    have e10 := toZ_inj a2 b2 e10
    have e11 := toZ_inj a3 b3 e11
    cases s; cases s'
    simp only at *
    subst e0 e1 e2 e3 e4 e5 e6 e7 e8 e9 e10 e11 e12 e13 e14 e15 e16
    rfl
  · rintro rfl; simp
def sSS : Spec := fun ds Q => match ds with
  | [d, e] => sesA d fun s => sesA e fun s' => cond (okSes s && okSes s') (Q (B (sameS s s'))) False
  | _ => False
theorem oSS : SpecOK Tryz.prog 32 sSS := o_al Tryz.func32 (by kernel_rfl) rfl fun ds Q h => by
  unfold sSS at h; split at h
  · obtain ⟨s, h, r1⟩ := sesA_spec h
    obtain ⟨s', h, r2⟩ := sesA_spec h
    obtain ⟨h1, h2⟩ := cond_P h
    rw [Bool.and_eq_true] at h1
    exact ⟨_, _, .cons r1 (.cons r2 .nil), cSS s s' h1.1 h1.2, rfl, rfl, h2⟩
  · exact h.elim
theorem eSA (R0 R1 R2 R3 S0 S1 S2 S3 : List (List D)) (K : DV → Prop) : (askW Tryz.prog (hkF [(88, sSameWords)] [] []) Tryz.f41 [.agg (wsL R0 R1 R2 R3), .agg (wsL S0 S1 S2 S3)] K) = (bif okZ (3) R0 && okZ (3) S0 then bif !decide (toZ R0 = toZ S0) then K (B false) else bif okZ (3) R1 && okZ (3) S1 then bif !decide (toZ R1 = toZ S1) then K (B false) else bif okZ (3) R2 && okZ (3) S2 then bif !decide (toZ R2 = toZ S2) then K (B false) else bif okZ (3) R3 && okZ (3) S3 then bif !decide (toZ R3 = toZ S3) then K (B false) else K (B true) else False else False else False else False) := by kernel_rfl
def sameA (R0 R1 R2 R3 S0 S1 S2 S3 : List (List D)) : Bool := bif decide (toZ R0 = toZ S0) then bif decide (toZ R1 = toZ S1) then bif decide (toZ R2 = toZ S2) then bif decide (toZ R3 = toZ S3) then true else false else false else false else false
theorem cSA (R0 R1 R2 R3 S0 S1 S2 S3 : List (List D)) (h : okA R0 R1 R2 R3 = true) (h' : okA S0 S1 S2 S3 = true) : CT Tryz.prog 41 [.agg (wsL R0 R1 R2 R3), .agg (wsL S0 S1 S2 S3)] (B (sameA R0 R1 R2 R3 S0 S1 S2 S3)) := by
  refine ct_wF (.cons oSameWords .nil) .nil .nil mixed Tryz.func41 rfl rfl rfl ?_
  rw [eSA]
  refine ⟨?_⟩
  obtain ⟨a0, a1, a2, a3⟩ := okA_spec h
  obtain ⟨b0, b1, b2, b3⟩ := okA_spec h'
  simp only [a0, a1, a2, a3, b0, b1, b2, b3, Bool.and_self, cond_true, bifALN]
  exact AL.refl _
theorem sameA_eq {R0 R1 R2 R3 S0 S1 S2 S3 : List (List D)} (h : okA R0 R1 R2 R3 = true) (h' : okA S0 S1 S2 S3 = true) : sameA R0 R1 R2 R3 S0 S1 S2 S3 = true ↔ R0 = S0 ∧ R1 = S1 ∧ R2 = S2 ∧ R3 = S3 := by
  obtain ⟨a0, a1, a2, a3⟩ := okA_spec h
  obtain ⟨b0, b1, b2, b3⟩ := okA_spec h'
  unfold sameA
  simp only [cond_tt, decide_eq_true_eq]
  constructor
  · rintro ⟨e0, e1, e2, e3, _⟩
    exact ⟨toZ_inj a0 b0 e0, toZ_inj a1 b1 e1, toZ_inj a2 b2 e2, toZ_inj a3 b3 e3⟩
  · rintro ⟨rfl, rfl, rfl, rfl⟩; simp
def sSA : Spec := fun ds Q => match ds with
  | [.agg cs, .agg es] => cond (noOwn cs && Nat.beq cs.length 4 && (noOwn es && Nat.beq es.length 4)) (takeW4 cs fun R0 R1 R2 R3 => takeW4 es fun S0 S1 S2 S3 => cond (okA R0 R1 R2 R3 && okA S0 S1 S2 S3) (Q (B (sameA R0 R1 R2 R3 S0 S1 S2 S3))) False) False
  | _ => False
theorem oSA : SpecOK Tryz.prog 41 sSA := o_al Tryz.func41 (by kernel_rfl) rfl fun ds Q h => by
  unfold sSA at h; split at h
  · obtain ⟨h0, h⟩ := cond_P h
    simp only [Bool.and_eq_true] at h0
    obtain ⟨R0, R1, R2, R3, h, r1⟩ := takeW4_spec h
    obtain ⟨S0, S1, S2, S3, h, r2⟩ := takeW4_spec h
    obtain ⟨h1, h2⟩ := cond_P h
    rw [Bool.and_eq_true] at h1
    rw [List.take_of_length_le (Nat.le_of_eq (beq_true h0.1.2))] at r1
    rw [List.take_of_length_le (Nat.le_of_eq (beq_true h0.2.2))] at r2
    exact ⟨_, _, .cons (.agg r1 h0.1.1 rfl) (.cons (.agg r2 h0.2.1 rfl) .nil), cSA R0 R1 R2 R3 S0 S1 S2 S3 h1.1 h1.2, rfl, rfl, h2⟩
  · exact h.elim
def stSM (h : Mh) (ss : List SesD) (h' : Mh) (ss' : List SesD) (v : Bool) (i : Int) : X := ⟨mkT 62 [(2, .c (.rp 3 0 11 0 0)), (3, .c (.rp 4 0 11 0 0)), (4, ab v), (5, ai i)], [(3, .bx 0 11 ((macL 0 h ss).map C.d)), (4, .bx 0 11 ((macL 0 h' ss').map C.d))], [], []⟩
def v_stSM (h : Mh) (ss : List SesD) (h' : Mh) (ss' : List SesD) : Vw := fun y K => wB y 4 fun v => wI y 5 fun i => K (stSM h ss h' ss' v i)
theorem v_stSM_ok (h : Mh) (ss : List SesD) (h' : Mh) (ss' : List SesD) : VwOK (v_stSM h ss h' ss') := fun y K h => by
  unfold v_stSM at h
  obtain ⟨v, h⟩ := wB_ex h
  obtain ⟨i, h⟩ := wI_ex h
  exact ⟨_, h⟩
theorem rSM (h : Mh) (ss : List SesD) (h' : Mh) (ss' : List SesD) (v : Bool) (i : Int) (N : X → Prop) (E : Exit → X → Prop) : (roundV Tryz.prog (hkF [(32, sSS)] [] []) Tryz.f24 0 [] [2, 3, 4, 5] [3, 4] (v_stSM h ss h' ss') (fun _ => v_stSM h ss h' ss') N E (stSM h ss h' ss' v i)) = (bif decide (i < @Nat.cast Int _ (List.length (List.map (sesL (0)) ss))) then bif decide (0 ≤ i) && decide (i < @Nat.cast Int _ (List.length (List.map (sesL (0)) ss))) then ∃ s, sesAt (List.map (sesL (0)) ss) (Int.toNat i) (0) s ∧ bif decide (0 ≤ i) && decide (i < @Nat.cast Int _ (List.length (List.map (sesL (0)) ss'))) then ∃ s_1, sesAt (List.map (sesL (0)) ss') (Int.toNat i) (0) s_1 ∧ bif okSes s && okSes s_1 then bif !sameS s s_1 then stSM h ss h' ss' false i = stSM h ss h' ss' false i ∧ E Exit.ret (stSM h ss h' ss' false i) else stSM h ss h' ss' v (IntKind.wrap IntKind.i64 (i + 1)) = stSM h ss h' ss' v (IntKind.wrap IntKind.i64 (i + 1)) ∧ N (stSM h ss h' ss' v (IntKind.wrap IntKind.i64 (i + 1))) else False else False else False else stSM h ss h' ss' v i = stSM h ss h' ss' v i ∧ E (Exit.exit (0)) (stSM h ss h' ss' v i)) := by kernel_rfl
def sesN (ss : List SesD) (i : Nat) : SesD := ss.getD i default
def unl (ss ss' : List SesD) (i : Nat) : Bool := !sameS (sesN ss i) (sesN ss' i)
def fSM (h : Mh) (ss : List SesD) (h' : Mh) (ss' : List SesD) : LSum := fun Q x => ss.length = ss'.length ∧ findS [2, 3, 4, 5] [3, 4] (fun i => stSM h ss h' ss' false i) (fun i => stSM h ss h' ss' false i) ss.length (unl ss ss') .ret (.exit 0) Q x
theorem eSM (h : Mh) (ss : List SesD) (h' : Mh) (ss' : List SesD) (K : DV → Prop) : (askW Tryz.prog (hkFL [(41, sSA), (59, sSameEvents)] [] [] [(4, fSM h ss h' ss')]) Tryz.f24 [.agg (macL 0 h ss), .agg (macL 0 h' ss')] K) = (bif okA h.w0 h.w1 h.w2 h.w3 && okA h'.w0 h'.w1 h'.w2 h'.w3 then bif !sameA h.w0 h.w1 h.w2 h.w3 h'.w0 h'.w1 h'.w2 h'.w3 then K (B false) else bif !eqI [h.c0, h.c1, h.c2, h.c3] [h'.c0, h'.c1, h'.c2, h'.c3] then K (B false) else bif h.ce != h'.ce then K (B false) else bif @Nat.cast Int _ (List.length (List.map (sesL (0)) ss)) != @Nat.cast Int _ (List.length (List.map (sesL (0)) ss')) then K (B false) else bif okZ (4) h.tr && okZ (4) h'.tr then bif !decide (toZ h.tr = toZ h'.tr) then K (B false) else List.length ss = List.length ss' ∧ stSM h ss h' ss' false (0) = stSM h ss h' ss' false (0) ∧ (∀ (i : Nat), firstAt (unl ss ss') (List.length ss) i → K (B false)) ∧ (noneTo (unl ss ss') (List.length ss) → K (B true)) else False else False) := by kernel_rfl
theorem sesN_at {ss : List SesD} {i t : Nat} (h : i < ss.length) : sesAt (List.map (sesL t) ss) i t (sesN ss i) := sesAt_map (by unfold sesN; rw [List.getD_eq_getElem?_getD, List.getElem?_eq_getElem h]; rfl)
theorem sesN_mem {ss : List SesD} {i : Nat} (h : i < ss.length) : sesN ss i ∈ ss := by
  unfold sesN
  rw [List.getD_eq_getElem?_getD, List.getElem?_eq_getElem h]
  exact List.getElem_mem h
theorem kSM {h : Mh} {ss : List SesD} {h' : Mh} {ss' : List SesD} (hs : okSS ss = true) (hs' : okSS ss' = true) (hn : ss.length ≤ 9223372036854775806) (Q : Exit → X → Prop) (x : X) (hq : fSM h ss h' ss' Q x) : XWP Tryz.prog (.loop (bodyL Tryz.f24 0)) Q x := by
  obtain ⟨hl, hq⟩ := hq
  have q1 := List.all_eq_true.1 hs
  have q2 := List.all_eq_true.1 hs'
  refine xwp_findV (sw := []) (V := v_stSM h ss h' ss') (VE := fun _ => v_stSM h ss h' ss') mixed (v_stSM_ok h ss h' ss') (fun _ => v_stSM_ok h ss h' ss') _ _ _ _ _ _ (fun i hi => ⟨hkF [(32, sSS)] [] [], hkF_ok (.cons oSS .nil) .nil .nil, loops_nil rfl, fun N E h1 h2 => ?_⟩) ⟨hkF [(32, sSS)] [] [], hkF_ok (.cons oSS .nil) .nil .nil, loops_nil rfl, fun N E h1 => ?_⟩ Q x hq
  · rw [rSM]
    have wi : IntKind.wrap IntKind.i64 ((i : Int) + 1) = ((i + 1 : Nat) : Int) := wrap_nat (n := 1) (by omega)
    have hi' : i < ss'.length := by omega
    simp only [List.length_map, Int.ofNat_lt, hi, hi', decide_true, cond_true, Int.natCast_nonneg, Bool.and_self, Int.toNat_natCast, wi]
    refine ⟨sesN ss i, sesN_at hi, sesN ss' i, sesN_at hi', ?_⟩
    rw [q1 _ (sesN_mem hi), q2 _ (sesN_mem hi')]
    unfold unl at h1 h2
    generalize sameS (sesN ss i) (sesN ss' i) = u at h1 h2 ⊢
    cases u
    · exact ⟨trivial, h1 rfl⟩
    · exact ⟨trivial, h2 rfl⟩
  · rw [rSM]
    simp only [List.length_map, Int.ofNat_lt, Nat.lt_irrefl, decide_false, cond_false, true_and]
    exact h1
def sameM (h : Mh) (ss : List SesD) (h' : Mh) (ss' : List SesD) : Bool := sameA h.w0 h.w1 h.w2 h.w3 h'.w0 h'.w1 h'.w2 h'.w3 && (eqI [h.c0, h.c1, h.c2, h.c3] [h'.c0, h'.c1, h'.c2, h'.c3] && (h.ce == h'.ce && (decide (ss.length = ss'.length) && (decide (toZ h.tr = toZ h'.tr) && !(List.range ss.length).any (unl ss ss')))))
theorem cSM (h : Mh) (ss : List SesD) (h' : Mh) (ss' : List SesD) (ho : okM h ss = true) (ho' : okM h' ss' = true) (hn : ss.length ≤ 9223372036854775806) : CT Tryz.prog 24 [.agg (macL 0 h ss), .agg (macL 0 h' ss')] (B (sameM h ss h' ss')) := by
  obtain ⟨a1, a2, a3⟩ := okM_spec ho
  obtain ⟨b1, b2, b3⟩ := okM_spec ho'
  refine ct_wL (m := [(4, fSM h ss h' ss')]) (.cons oSA (.cons oSameEvents .nil)) .nil .nil mixed (loopsL1 (i := 0) (fun j hj _ => by have : j < 1 := hj; omega) (kSM a3 b3 hn)) Tryz.func24 rfl rfl rfl ?_
  rw [eSM]
  refine ⟨?_⟩
  unfold sameM
  simp only [a1, a2, b1, b2, Bool.and_self, cond_true, List.length_map]
  cases sameA h.w0 h.w1 h.w2 h.w3 h'.w0 h'.w1 h'.w2 h'.w3
  · exact AL.refl _
  · cases eqI [h.c0, h.c1, h.c2, h.c3] [h'.c0, h'.c1, h'.c2, h'.c3]
    · exact AL.refl _
    · cases hc : h.ce == h'.ce
      · have : (h.ce != h'.ce) = true := by unfold bne; rw [hc]; rfl
        rw [this]; exact AL.refl _
      · have : (h.ce != h'.ce) = false := by unfold bne; rw [hc]; rfl
        rw [this]
        by_cases hl : ss.length = ss'.length
        · have : (@Nat.cast Int _ (List.length ss) != @Nat.cast Int _ (List.length ss')) = false := by rw [hl]; simp
          rw [this, decide_eq_true hl]
          cases decide (toZ h.tr = toZ h'.tr)
          · exact AL.refl _
          · refine ⟨hl, trivial, fun i hi => ?_, fun hn => ?_⟩
            · rw [hi.b]; exact AL.refl _
            · rw [hn.b]; exact AL.refl _
        · have : (@Nat.cast Int _ (List.length ss) != @Nat.cast Int _ (List.length ss')) = true := by simp; omega
          rw [this, decide_eq_false hl]; exact AL.refl _
def sSM : Spec := fun ds Q => match ds with
  | [d, e] => macA d fun h ss => macA e fun h' ss' => cond (okM h ss && (okM h' ss' && Nat.ble ss.length 4)) (Q (B (sameM h ss h' ss'))) False
  | _ => False
theorem oSM : SpecOK Tryz.prog 24 sSM := o_al Tryz.func24 (by kernel_rfl) rfl fun ds Q hq => by
  unfold sSM at hq; split at hq
  · obtain ⟨h, ss, hq, r1⟩ := macA_spec hq
    obtain ⟨h', ss', hq, r2⟩ := macA_spec hq
    obtain ⟨h1, h2⟩ := cond_P hq
    simp only [Bool.and_eq_true] at h1
    exact ⟨_, _, .cons r1 (.cons r2 .nil), cSM h ss h' ss' h1.1 h1.2.1 (by have := Nat.le_of_ble_eq_true h1.2.2; omega), rfl, rfl, h2⟩
  · exact hq.elim
end

section
set_option maxHeartbeats 2000000
open Go Go.Proofs
set_option linter.unusedSimpArgs false
set_option linter.unusedVariables false
set_option maxRecDepth 100000
def iStdK (k : Int) (h : Mh) (s : SesD) : Inl := callB Tryz.prog [3, 3] (sF (sAtD [I 0, I k] (.agg (macL 1 h [s, bB]))))
end

section
set_option maxHeartbeats 2000000
open Go Go.Proofs
set_option linter.unusedSimpArgs false
set_option linter.unusedVariables false
set_option maxRecDepth 100000
theorem smM_set {h : Mh} {ss : List SesD} (hm : smM h ss = true) (j : Nat) {s : SesD} (hs : smS s = true) : smM h (ss.set j s) = true := by
  unfold smM at hm ⊢
  simp only [Bool.and_eq_true] at hm ⊢
  refine ⟨hm.1, hm.2.1, ?_⟩
  rw [List.all_eq_true] at hm ⊢
  intro x hx
  rcases List.mem_or_eq_of_mem_set hx with hx | rfl
  · exact hm.2.2 x hx
  · exact hs
theorem smM_tr {h h' : Mh} {ss : List SesD} (hm : smM h ss = true) (e0 : h'.w0 = h.w0) (e1 : h'.w1 = h.w1) (e2 : h'.w2 = h.w2) (e3 : h'.w3 = h.w3) (ht : smR 4398046510977 h'.tr = true) : smM h' ss = true := by
  unfold smM at hm ⊢
  rw [e0, e1, e2, e3, ht]
  simp only [Bool.and_eq_true] at hm ⊢
  exact ⟨hm.1, trivial, hm.2.2⟩
end

section
set_option maxHeartbeats 2000000
open Go Go.Proofs
set_option linter.unusedSimpArgs false
set_option linter.unusedVariables false
set_option maxRecDepth 100000
theorem ses_wr' {R0 R1 R2 R3 : List (List D)} {s : SesD} (h : sesMay R0 R1 R2 R3 s = true) : wrmay (toZ s.wt) = true := by
  unfold sesMay setsB at h
  simp only [Bool.and_eq_true] at h
  exact h.2.1.2.1
theorem withW_len (l : List (List Int)) (r : List Int) : (withW l r).length ≤ l.length + 1 := by
  unfold withW
  cases wrmay l && okw r
  · simp
  · simp only [cond_true]
    unfold putW
    cases hasW l (key r) <;> simp <;> omega
theorem storeS_sm {s : SesD} (hs : smS s = true) (hw : s.wt.length ≤ 16) : smS (storeS s) = true := by
  obtain ⟨h1, h2, h3⟩ := smS_spec hs
  unfold smS
  show (smR 4398046510977 s.pg && (smR 5864062014635 s.rd && smR 5864062014635 (mZ (withW (toZ s.wt) [iB s, iD s, regAt s (iA s)])))) = true
  have hl := withW_len (toZ s.wt) [iB s, iD s, regAt s (iA s)]
  rw [toZ_len] at hl
  rw [h1, h2]
  unfold smR
  rw [allV_mZ, mZ_len, decide_eq_true (by omega)]; rfl
theorem tellE_tr {h : Mh} (ht : smR 4398046510977 h.tr = true) (hl : h.tr.length ≤ 512) (a b k v : Int) : smR 4398046510977 (tellE h a b k v).tr = true := by
  unfold tellE
  cases decide ((h.tr.length : Int) < 512)
  · exact ht
  · unfold smR
    show (allV (h.tr ++ [[vN a, vN b, vN k, vN v]]) && decide ((h.tr ++ [[vN a, vN b, vN k, vN v]]).length ≤ 4398046510977)) = true
    rw [allV_add (smR_spec ht).1 rfl, List.length_append, decide_eq_true (by simp; omega)]; rfl
theorem Foc.smS {h : Mh} {ss : List SesD} {i : Int} {s : SesD} (f : Foc h ss i s) : Vm.smS s = true :=
  List.all_eq_true.1 (by have := f.sm; unfold smM at this; simp only [Bool.and_eq_true] at this; exact this.2.2) s (List.mem_of_getElem? f.at')
theorem Foc.wtl {h : Mh} {ss : List SesD} {i : Int} {s : SesD} (f : Foc h ss i s) : s.wt.length ≤ 16 := by
  have := wrmay_len (ses_wr' f.may)
  rwa [toZ_len] at this
theorem Foc.smtr {h : Mh} {ss : List SesD} {i : Int} {s : SesD} (f : Foc h ss i s) : smR 4398046510977 h.tr = true := (smM_spec f.sm).2.1
theorem sto_w (h : Mh) (s : SesD) : (storeM h s).w0 = h.w0 ∧ (storeM h s).w1 = h.w1 ∧ (storeM h s).w2 = h.w2 ∧ (storeM h s).w3 = h.w3 := by
  unfold storeM tellE
  first | exact ⟨rfl, rfl, rfl, rfl⟩ | (split <;> exact ⟨rfl, rfl, rfl, rfl⟩) | (cases decide ((h.tr.length : Int) < 512) <;> exact ⟨rfl, rfl, rfl, rfl⟩)
def sSto : Spec := fun ds Q => match ds with
  | [d, e] => macA d fun h ss => inA e fun i => cond (okM h ss) (bif mAt (has1 3) h ss i then Q (macR (storeM h (ss.getD i.toNat default)) (ss.set i.toNat (storeS (ss.getD i.toNat default))) 0) else Q (macE 1600)) False
  | _ => False
theorem oSto : SpecOK Tryz.prog 38 sSto := o_al Tryz.func38 (by kernel_rfl) rfl fun ds Q hq => by
  unfold sSto at hq; split at hq
  · obtain ⟨h, ss, hq, r1⟩ := macA_spec hq
    obtain ⟨i, hq, rfl⟩ := inA_spec hq
    obtain ⟨ho, hq⟩ := cond_P hq
    have hct := cSto h ss i ho
    cases hm : mAt (has1 3) h ss i with
    | false =>
      rw [hm] at hq hct
      exact ⟨_, _, .cons r1 (.cons (.refl _) .nil), hct, rfl, rfl, hq⟩
    | true =>
      rw [hm] at hq hct
      obtain ⟨s, f, _⟩ := mAt_spec ho hm
      refine ⟨_, macR (storeM h (ss.getD i.toNat default)) (ss.set i.toNat (storeS (ss.getD i.toNat default))) 0, .cons r1 (.cons (.refl _) .nil), hct, own_macR (h := storeM h (ss.getD i.toNat default)) (smM_set (smM_tr (h' := storeM h (ss.getD i.toNat default)) f.sm (sto_w _ _).1 (sto_w _ _).2.1 (sto_w _ _).2.2.1 (sto_w _ _).2.2.2 ?_) _ ?_) 0, rfl, hq⟩
      · rw [f.getD]; exact tellE_tr f.smtr f.tl _ _ _ _
      · rw [f.getD]; exact storeS_sm f.smS f.wtl
  · exact hq.elim
def iSto : Inl := callB Tryz.prog [34, 3] (sF sSto)
theorem iSto_ok : InlOK Tryz.prog 38 iSto := callB_ok (oF oSto)
theorem iStd16_2_ok : InlOK Tryz.prog 43 (iStdK 2 bH2 bA2) := callB_ok (oF (oAtD (goes_of Tryz.func43 (by kernel_rfl) rfl) cStd16_2 rfl rfl))
theorem oBeg16 : SpecOK Tryz.prog 44 (sAtD [] (.agg (macL 1 bH0 [bA0, bB]))) := oAtD (goes_of Tryz.func44 (by kernel_rfl) rfl) cBeg16 rfl rfl
theorem eAw16 (K : DV → Prop) : (askH Tryz.prog (hkM [(25, sI), (45, sSameWrites), (41, sSA), (44, sAtD [] (.agg (macL 1 bH0 [bA0, bB])))] [] [(38, iSto), (43, iStdK 2 bH2 bA2)]) Tryz.f40 [] K) = ([I (0), I (2)] = [I (0), I (2)] ∧ ([] : List DV) = [] ∧ ([] : List DV) = [] ∧ K (B true)) := by kernel_rfl
theorem cAw16 : CT Tryz.prog 40 [] (B true) := by
  refine ct_m (.cons oNum (.cons oSameWrites (.cons oSA (.cons oBeg16 .nil)))) .nil (.cons iSto_ok (.cons iStd16_2_ok .nil)) mixed Tryz.func40 rfl rfl rfl ?_
  rw [eAw16]
  exact ⟨by repeat (first | exact rfl | refine ⟨rfl, ?_⟩)⟩
theorem oAw16 : SpecOK Tryz.prog 40 (sAtD [] (B true)) := oAtD (goes_of Tryz.func40 (by kernel_rfl) rfl) cAw16 rfl rfl
end

section
set_option maxHeartbeats 2000000
open Go Go.Proofs
set_option linter.unusedSimpArgs false
set_option linter.unusedVariables false
set_option maxRecDepth 100000
theorem OD.frz {w : World} {G : Nat → Prop} {v : Value} {S G' S' : Nat → Prop} {d e : D} (h : RD d e) (he : e.isOwn = false) (hg : ∀ b, G b → G' b) (hs : ∀ b, S b → G' b) (hv : OD w G v d S) : OD w G' v e S' := by
  refine .r _ _ _ (fun z rows sp q => ?_) (h _ _ _ (hv.read hg hs))
  subst q; cases he
theorem frz_c {d e : D} (h : RD d e) (he : e.isOwn = false) : Frz (.c d) (.c e) := fun w G v S hv => by
  cases hv with
  | c _ _ _ hx => exact .c _ _ _ (hx.frz h he (fun _ => .inl) (fun _ => .inr))
theorem frz_agg {cs cs' : List D} (h : All2 RD cs cs') (he : cs'.all (fun d => !d.isOwn) = true) : Frz (.agg cs) (.agg cs') := fun w G v S hv => by
  cases hv with
  | agg vs _ _ sub h1 h2 h3 h4 =>
    refine .agg vs cs' _ (fun _ _ => False) (by rw [← h.len]; exact h1) (fun i e hi => ?_) (fun _ _ q => q) (fun _ _ _ q => q.elim)
    obtain ⟨d, g1, g2⟩ := h.get hi
    have a2 := List.all_eq_true.1 he e (List.mem_of_getElem? hi)
    exact (h2 i d g1).frz g2 (by simpa using a2) (fun _ => .inl) (fun b hb => .inr (h3 i b hb))
theorem frz_tup {xs ys : List DV} (h : All2 Frz xs ys) : Frz (.tup xs) (.tup ys) := fun w G v S hv => by
  cases hv with
  | tup vs _ _ sub h1 h2 h3 h4 =>
    refine .tup vs ys _ (fun _ _ => False) (by rw [← h.len]; exact h1) (fun i e hi => ?_) (fun _ _ q => q) (fun _ _ _ q => q.elim)
    obtain ⟨d, g1, g2⟩ := h.get hi
    exact (g2 _ _ _ _ (h2 i d g1)).mono (fun b hb => hb.elim .inl fun q => .inr (h3 i b q)) (.refl _ _) (.refl _ _)
theorem ses_rd {t t' : Nat} (s : SesD) : All2 RD (sesL t s) (sesL t' s) :=
  .cons (.refl _) (.cons (.refl _) (.cons (.refl _) (.cons .slice (.cons (.refl _) (.cons (.refl _) (.cons (.refl _) (.cons (.refl _) (.cons (.refl _) (.cons (.refl _) (.cons .slice (.cons .slice (.cons (.refl _) (.cons (.refl _) (.cons (.refl _) (.cons (.refl _) (.cons (.refl _) .nil))))))))))))))))
theorem sss_rd {t t' : Nat} : ∀ ss : List SesD, All2 (All2 RD) (ss.map (sesL t)) (ss.map (sesL t'))
  | [] => .nil
  | s :: ss => .cons (ses_rd s) (sss_rd ss)
theorem mac_rd {t t' : Nat} (h : Mh) (ss : List SesD) : All2 RD (macL t h ss) (macL t' h ss) :=
  .cons .slice (.cons .slice (.cons .slice (.cons .slice (.cons (.refl _) (.cons (.refl _) (.cons (.refl _) (.cons (.refl _) (.cons (.refl _) (.cons (.rows (sss_rd ss)) (.cons .slice .nil))))))))))
def macZ (h : Mh) (ss : List SesD) (e : Int) : DV := .tup [.agg (macL 0 h ss), I e]
theorem frz_macR (h : Mh) (ss : List SesD) (e : Int) : Frz (macR h ss e) (macZ h ss e) := frz_tup (.cons (frz_agg (mac_rd h ss) rfl) (.cons (frz_c (.refl _) rfl) .nil))
theorem ixTrue {t : Nat} {ss : List SesD} {i : Int} (h0 : 0 ≤ i) (h1 : i.toNat < ss.length) : (decide (0 ≤ i) && decide (i < @Nat.cast Int _ (List.length (List.map (sesL t) ss)))) = true := by
  rw [List.length_map, decide_eq_true h0, decide_eq_true (by omega)]; rfl
end

section
set_option maxHeartbeats 2000000
open Go Go.Proofs
set_option linter.unusedSimpArgs false
set_option linter.unusedVariables false
set_option maxRecDepth 100000
def kSes : List KT := [.int, .int, .int, .sl (List.replicate 4 .int) 32, .int, .int, .int, .int, .int, .int, .sl (List.replicate 3 .int) 24, .sl (List.replicate 3 .int) 24, .int, .int, .int, .int, .int]
def kMac : List KT := [.sl (List.replicate 3 .int) 24, .sl (List.replicate 3 .int) 24, .sl (List.replicate 3 .int) 24, .sl (List.replicate 3 .int) 24, .int, .int, .int, .int, .int, .sl kSes 184, .sl (List.replicate 4 .int) 32]
theorem GoodL.i {cs : List KT} {ds : List D} (h : GoodL (.int :: cs) ds) : ∃ n ds', ds = vN n :: ds' ∧ GoodL cs ds' := by
  obtain ⟨d, ds', rfl, h1, h2⟩ := h.cons_inv
  obtain ⟨n, rfl, _⟩ := h1.int_inv
  exact ⟨n, ds', rfl, h2⟩
theorem GoodL.r {z b : Nat} {cs : List KT} {ds : List D} (h : GoodL (.sl (List.replicate z .int) b :: cs) ds) : ∃ R ds', ds = .s 0 z R [] :: ds' ∧ okZ z R = true ∧ GoodL cs ds' := by
  obtain ⟨d, ds', rfl, h1, h2⟩ := h.cons_inv
  obtain ⟨R, rfl, h3, _⟩ := h1.rows
  exact ⟨R, ds', rfl, h3, h2⟩
theorem gSes {r : List D} (h : GoodL kSes r) : ∃ s, r = sesL 0 s ∧ okSes s = true := by
  unfold kSes at h
  obtain ⟨x0, r0, rfl, g0⟩ := h.i
  obtain ⟨x1, r1, rfl, g1⟩ := g0.i
  obtain ⟨x2, r2, rfl, g2⟩ := g1.i
  obtain ⟨x3, r3, rfl, o3, g3⟩ := g2.r
  obtain ⟨x4, r4, rfl, g4⟩ := g3.i
  obtain ⟨x5, r5, rfl, g5⟩ := g4.i
  obtain ⟨x6, r6, rfl, g6⟩ := g5.i
  obtain ⟨x7, r7, rfl, g7⟩ := g6.i
  obtain ⟨x8, r8, rfl, g8⟩ := g7.i
  obtain ⟨x9, r9, rfl, g9⟩ := g8.i
  obtain ⟨x10, r10, rfl, o10, g10⟩ := g9.r
  obtain ⟨x11, r11, rfl, o11, g11⟩ := g10.r
  obtain ⟨x12, r12, rfl, g12⟩ := g11.i
  obtain ⟨x13, r13, rfl, g13⟩ := g12.i
  obtain ⟨x14, r14, rfl, g14⟩ := g13.i
  obtain ⟨x15, r15, rfl, g15⟩ := g14.i
  obtain ⟨x16, r16, rfl, g16⟩ := g15.i
  obtain rfl := g16.nil_inv
  refine ⟨⟨x0, x1, x2, x3, x4, x5, x6, x7, x8, x9, x10, x11, x12, x13, x14, x15, x16⟩, rfl, ?_⟩
  show (okZ 4 x3 && (okZ 3 x10 && okZ 3 x11)) = true
  rw [o3, o10, o11]; rfl
theorem gSess : ∀ rows : List (List D), (∀ r ∈ rows, GoodL kSes r) → ∃ ss : List SesD, rows = ss.map (sesL 0) ∧ okSS ss = true
  | [], _ => ⟨[], rfl, rfl⟩
  | r :: rows, h => by
    obtain ⟨s, rfl, hs⟩ := gSes (h r (by simp))
    obtain ⟨ss, rfl, hss⟩ := gSess rows fun r hr => h r (by simp [hr])
    refine ⟨s :: ss, rfl, ?_⟩
    unfold okSS at hss ⊢
    rw [List.all_cons, hs, hss]; rfl
theorem gMac {r : List D} (h : GoodL kMac r) : ∃ m ss, r = macL 0 m ss ∧ okM m ss = true ∧ ss.length * 184 ≤ 140737488351232 := by
  unfold kMac at h
  obtain ⟨x0, r0, rfl, o0, g0⟩ := h.r
  obtain ⟨x1, r1, rfl, o1, g1⟩ := g0.r
  obtain ⟨x2, r2, rfl, o2, g2⟩ := g1.r
  obtain ⟨x3, r3, rfl, o3, g3⟩ := g2.r
  obtain ⟨x4, r4, rfl, g4⟩ := g3.i
  obtain ⟨x5, r5, rfl, g5⟩ := g4.i
  obtain ⟨x6, r6, rfl, g6⟩ := g5.i
  obtain ⟨x7, r7, rfl, g7⟩ := g6.i
  obtain ⟨x8, r8, rfl, g8⟩ := g7.i
  obtain ⟨d, r9, rfl, h9, g9⟩ := g8.cons_inv
  obtain ⟨rows, rfl, hb, _, hr⟩ := h9.sl_inv
  obtain ⟨ss, rfl, hss⟩ := gSess rows hr
  obtain ⟨x10, r10, rfl, o10, g10⟩ := g9.r
  obtain rfl := g10.nil_inv
  refine ⟨{ w0 := x0, w1 := x1, w2 := x2, w3 := x3, c0 := x4, c1 := x5, c2 := x6, c3 := x7, ce := x8, tr := x10 }, ss, rfl, ?_, by rwa [List.length_map] at hb⟩
  unfold okM okA
  show (okZ 3 x0 && (okZ 3 x1 && (okZ 3 x2 && okZ 3 x3)) && (okZ 4 x10 && okSS ss)) = true
  rw [o0, o1, o2, o3, o10, hss]; rfl
end

section
set_option maxHeartbeats 2000000
open Go Go.Proofs
set_option linter.unusedSimpArgs false
set_option linter.unusedVariables false
set_option maxRecDepth 100000
def allD : List C → (List D → Prop) → Prop
  | [], K => K []
  | .d d :: r, K => allD r fun ds => K (d :: ds)
  | _ :: _, _ => False
theorem allD_ex : ∀ {r : List C} {K : List D → Prop}, allD r K → ∃ ds, K ds
  | [], _, h => ⟨_, h⟩
  | .d d :: r, _, h => by obtain ⟨ds, h⟩ := allD_ex (r := r) h; exact ⟨_, h⟩
def wSes (y : X) (k : Nat) (K : SesD → Prop) : Prop := wR y k fun r => allD r fun ds => sesK ds K
theorem wSes_ex {y : X} {k : Nat} {K : SesD → Prop} (h : wSes y k K) : ∃ s, K s := by
  obtain ⟨r, h⟩ := wR_ex h
  obtain ⟨ds, h⟩ := allD_ex h
  obtain ⟨s, h, _⟩ := sesK_spec h
  exact ⟨s, h⟩
def int4 (r : List D) (K : Int → Int → Int → Int → Prop) : Prop := match r with
  | [.v (.int .i64 c), .v (.int .i64 a), .v (.int .i64 b), .v (.int .i64 d)] => K c a b d
  | _ => False
theorem int4_ex {r : List D} {K : Int → Int → Int → Int → Prop} (h : int4 r K) : ∃ c a b d, K c a b d := by
  unfold int4 at h; split at h
  · exact ⟨_, _, _, _, h⟩
  · exact h.elim
def stK1 (h h1 : Mh) (ss ss1 : List SesD) (i0 : Int) (s y : SesD) (c a b d : Int) (v : Bool) (i : Int) : X := ⟨mkT 189 [(1, ai i0), (2, .c (.rp 3 0 11 0 0)), (4, ab false), (5, .c (.rp 6 0 11 0 0)), (7, .c (.rp 8 0 17 0 0)), (8, .c (.rp 9 0 17 0 0)), (9, .c (.rp 10 0 4 0 0)), (10, ab v), (11, ai i)], [(3, .bx 0 11 ((macL 0 h ss).map C.d)), (6, .bx 0 11 ((macL 0 h1 ss1).map C.d)), (8, .bx 0 17 ((sesL 0 s).map C.d)), (9, .bx 0 17 ((sesL 0 y).map C.d)), (10, .bx 0 4 [.d (vN c), .d (vN a), .d (vN b), .d (vN d)])], [], []⟩
def v_stK1 (h h1 : Mh) (ss ss1 : List SesD) (i0 : Int) (s y : SesD) (c a b d : Int) : Vw := fun x K => wB x 10 fun v => wI x 11 fun i => K (stK1 h h1 ss ss1 i0 s y c a b d v i)
theorem v_stK1_ok (h h1 : Mh) (ss ss1 : List SesD) (i0 : Int) (s y : SesD) (c a b d : Int) : VwOK (v_stK1 h h1 ss ss1 i0 s y c a b d) := fun x K q => by
  unfold v_stK1 at q
  obtain ⟨v, q⟩ := wB_ex q
  obtain ⟨i, q⟩ := wI_ex q
  exact ⟨_, q⟩
theorem rK1 (h h1 : Mh) (ss ss1 : List SesD) (i0 : Int) (s y : SesD) (c a b d : Int) (v : Bool) (i : Int) (N : X → Prop) (E : Exit → X → Prop) : (roundV Tryz.prog (hkF [] [] []) Tryz.f15 0 [] [1, 2, 4, 5, 7, 8, 9, 10, 11] [3, 6, 8, 9, 10] (v_stK1 h h1 ss ss1 i0 s y c a b d) (fun _ => v_stK1 h h1 ss ss1 i0 s y c a b d) N E (stK1 h h1 ss ss1 i0 s y c a b d v i)) = (bif decide (i < @Nat.cast Int _ (List.length y.wt)) then bif decide (0 ≤ i) && decide (i < @Nat.cast Int _ (List.length y.wt)) then bif isJ [IntKind.i64, IntKind.i64, IntKind.i64] (List.drop (0) (List.getD y.wt (Int.toNat i) [])) then bif hdJ (List.drop (0) (List.getD y.wt (Int.toNat i) [])) == b then bif hdJ (List.tail (List.drop (0) (List.getD y.wt (Int.toNat i) []))) == d then bif decide (a = 0) then stK1 h h1 ss ss1 i0 s y c a b d (hdJ (List.tail (List.tail (List.drop (0) (List.getD y.wt (Int.toNat i) [])))) == s.r0) (IntKind.wrap IntKind.i64 (i + 1)) = stK1 h h1 ss ss1 i0 s y c a b d (hdJ (List.tail (List.tail (List.drop (0) (List.getD y.wt (Int.toNat i) [])))) == s.r0) (IntKind.wrap IntKind.i64 (i + 1)) ∧ N (stK1 h h1 ss ss1 i0 s y c a b d (hdJ (List.tail (List.tail (List.drop (0) (List.getD y.wt (Int.toNat i) [])))) == s.r0) (IntKind.wrap IntKind.i64 (i + 1))) else bif decide (a = 1) then stK1 h h1 ss ss1 i0 s y c a b d (hdJ (List.tail (List.tail (List.drop (0) (List.getD y.wt (Int.toNat i) [])))) == s.r1) (IntKind.wrap IntKind.i64 (i + 1)) = stK1 h h1 ss ss1 i0 s y c a b d (hdJ (List.tail (List.tail (List.drop (0) (List.getD y.wt (Int.toNat i) [])))) == s.r1) (IntKind.wrap IntKind.i64 (i + 1)) ∧ N (stK1 h h1 ss ss1 i0 s y c a b d (hdJ (List.tail (List.tail (List.drop (0) (List.getD y.wt (Int.toNat i) [])))) == s.r1) (IntKind.wrap IntKind.i64 (i + 1))) else bif decide (a = 2) then stK1 h h1 ss ss1 i0 s y c a b d (hdJ (List.tail (List.tail (List.drop (0) (List.getD y.wt (Int.toNat i) [])))) == s.r2) (IntKind.wrap IntKind.i64 (i + 1)) = stK1 h h1 ss ss1 i0 s y c a b d (hdJ (List.tail (List.tail (List.drop (0) (List.getD y.wt (Int.toNat i) [])))) == s.r2) (IntKind.wrap IntKind.i64 (i + 1)) ∧ N (stK1 h h1 ss ss1 i0 s y c a b d (hdJ (List.tail (List.tail (List.drop (0) (List.getD y.wt (Int.toNat i) [])))) == s.r2) (IntKind.wrap IntKind.i64 (i + 1))) else bif decide (a = 3) then stK1 h h1 ss ss1 i0 s y c a b d (hdJ (List.tail (List.tail (List.drop (0) (List.getD y.wt (Int.toNat i) [])))) == s.r3) (IntKind.wrap IntKind.i64 (i + 1)) = stK1 h h1 ss ss1 i0 s y c a b d (hdJ (List.tail (List.tail (List.drop (0) (List.getD y.wt (Int.toNat i) [])))) == s.r3) (IntKind.wrap IntKind.i64 (i + 1)) ∧ N (stK1 h h1 ss ss1 i0 s y c a b d (hdJ (List.tail (List.tail (List.drop (0) (List.getD y.wt (Int.toNat i) [])))) == s.r3) (IntKind.wrap IntKind.i64 (i + 1))) else False else stK1 h h1 ss ss1 i0 s y c a b d v (IntKind.wrap IntKind.i64 (i + 1)) = stK1 h h1 ss ss1 i0 s y c a b d v (IntKind.wrap IntKind.i64 (i + 1)) ∧ N (stK1 h h1 ss ss1 i0 s y c a b d v (IntKind.wrap IntKind.i64 (i + 1))) else stK1 h h1 ss ss1 i0 s y c a b d v (IntKind.wrap IntKind.i64 (i + 1)) = stK1 h h1 ss ss1 i0 s y c a b d v (IntKind.wrap IntKind.i64 (i + 1)) ∧ N (stK1 h h1 ss ss1 i0 s y c a b d v (IntKind.wrap IntKind.i64 (i + 1))) else False else False else stK1 h h1 ss ss1 i0 s y c a b d v i = stK1 h h1 ss ss1 i0 s y c a b d v i ∧ E (Exit.exit (0)) (stK1 h h1 ss ss1 i0 s y c a b d v i)) := by kernel_rfl
def inB (R : List (List Int)) (lv ix v : Int) : Nat → Bool
  | 0 => false
  | k + 1 => bif (R.getD k []).getD 0 0 == lv then bif (R.getD k []).getD 1 0 == ix then (R.getD k []).getD 2 0 == v else inB R lv ix v k else inB R lv ix v k
def fK1 (h h1 : Mh) (ss ss1 : List SesD) : LSum := fun Q x => wI x 1 fun i0 => wSes x 8 fun s => wSes x 9 fun y => wR x 10 fun r => allD r fun ds => int4 ds fun c a b d => (okZ 3 y.wt = true ∧ y.wt.length ≤ 16 ∧ lab a = true) ∧
  findS [1, 2, 4, 5, 7, 8, 9, 10, 11] [3, 6, 8, 9, 10] (fun k => stK1 h h1 ss ss1 i0 s y c a b d (inB (toZ y.wt) b d (regAt s a) k) k) (fun k => stK1 h h1 ss ss1 i0 s y c a b d false k) y.wt.length (fun _ => false) .ret (.exit 0) Q x
def stK2 (h h1 : Mh) (ss ss1 : List SesD) (i0 : Int) (s y : SesD) (v w : Bool) (i : Int) : X := ⟨mkT 189 [(1, ai i0), (2, .c (.rp 3 0 11 0 0)), (4, ab w), (5, .c (.rp 6 0 11 0 0)), (7, .c (.rp 8 0 17 0 0)), (8, .c (.rp 9 0 17 0 0)), (10, ab v), (13, ai i)], [(3, .bx 0 11 ((macL 0 h ss).map C.d)), (6, .bx 0 11 ((macL 0 h1 ss1).map C.d)), (8, .bx 0 17 ((sesL 0 s).map C.d)), (9, .bx 0 17 ((sesL 0 y).map C.d))], [], []⟩
def v_stK2 (h h1 : Mh) (ss ss1 : List SesD) (i0 : Int) (s y : SesD) (v : Bool) : Vw := fun x K => wB x 4 fun w => wI x 13 fun i => K (stK2 h h1 ss ss1 i0 s y v w i)
theorem v_stK2_ok (h h1 : Mh) (ss ss1 : List SesD) (i0 : Int) (s y : SesD) (v : Bool) : VwOK (v_stK2 h h1 ss ss1 i0 s y v) := fun x K q => by
  unfold v_stK2 at q
  obtain ⟨v, q⟩ := wB_ex q
  obtain ⟨i, q⟩ := wI_ex q
  exact ⟨_, q⟩
theorem rK2 (h h1 : Mh) (ss ss1 : List SesD) (i0 : Int) (s y : SesD) (v w : Bool) (i : Int) (N : X → Prop) (E : Exit → X → Prop) : (roundV Tryz.prog (hkF [(32, sSS)] [] []) Tryz.f15 1 [] [1, 2, 4, 5, 7, 8, 10, 13] [3, 6, 8, 9] (v_stK2 h h1 ss ss1 i0 s y v) (fun _ => v_stK2 h h1 ss ss1 i0 s y v) N E (stK2 h h1 ss ss1 i0 s y v w i)) = (bif decide (i < @Nat.cast Int _ (List.length (List.map (sesL (0)) ss))) then bif i != i0 then bif decide (0 ≤ i) && decide (i < @Nat.cast Int _ (List.length (List.map (sesL (0)) ss1))) then ∃ s_1, sesAt (List.map (sesL (0)) ss1) (Int.toNat i) (0) s_1 ∧ bif decide (0 ≤ i) && decide (i < @Nat.cast Int _ (List.length (List.map (sesL (0)) ss))) then ∃ s_2, sesAt (List.map (sesL (0)) ss) (Int.toNat i) (0) s_2 ∧ bif okSes s_1 && okSes s_2 then bif !sameS s_1 s_2 then stK2 h h1 ss ss1 i0 s y v false i = stK2 h h1 ss ss1 i0 s y v false i ∧ E Exit.ret (stK2 h h1 ss ss1 i0 s y v false i) else stK2 h h1 ss ss1 i0 s y v w (IntKind.wrap IntKind.i64 (i + 1)) = stK2 h h1 ss ss1 i0 s y v w (IntKind.wrap IntKind.i64 (i + 1)) ∧ N (stK2 h h1 ss ss1 i0 s y v w (IntKind.wrap IntKind.i64 (i + 1))) else False else False else False else stK2 h h1 ss ss1 i0 s y v w (IntKind.wrap IntKind.i64 (i + 1)) = stK2 h h1 ss ss1 i0 s y v w (IntKind.wrap IntKind.i64 (i + 1)) ∧ N (stK2 h h1 ss ss1 i0 s y v w (IntKind.wrap IntKind.i64 (i + 1))) else stK2 h h1 ss ss1 i0 s y v w i = stK2 h h1 ss ss1 i0 s y v w i ∧ E (Exit.exit (2)) (stK2 h h1 ss ss1 i0 s y v w i)) := by kernel_rfl
def badK (ss ss1 : List SesD) (i0 : Int) (k : Nat) : Bool := decide ((k : Int) ≠ i0) && !sameS (sesN ss1 k) (sesN ss k)
def fK2 (h h1 : Mh) (ss ss1 : List SesD) : LSum := fun Q x => wI x 1 fun i0 => wB x 10 fun v => wSes x 8 fun s => wSes x 9 fun y => ss.length = ss1.length ∧
  findS [1, 2, 4, 5, 7, 8, 10, 13] [3, 6, 8, 9] (fun k => stK2 h h1 ss ss1 i0 s y v false k) (fun k => stK2 h h1 ss ss1 i0 s y v false k) ss.length (badK ss ss1 i0) .ret (.exit 2) Q x
theorem eK0 (h : Mh) (ss : List SesD) (i : Int) (K : DV → Prop) : (askW Tryz.prog (hkFL [(40, sAtD [] (B true)), (38, sAtD [.agg (macL 0 h ss), I i] (macE 1600)), (25, sI), (24, sSM)] [] [] []) Tryz.f15 [.agg (macL 0 h ss), I i] K) = (([] : List DV) = [] ∧ [DV.agg (macL (0) h ss), I i] = [DV.agg (macL (0) h ss), I i] ∧ K (B true)) := by kernel_rfl
theorem eK1 (h h1 : Mh) (ss ss1 : List SesD) (i : Int) (K : DV → Prop) : (askW Tryz.prog (hkFL [(40, sAtD [] (B true)), (38, sAtD [.agg (macL 0 h ss), I i] (.tup [.agg (macL 0 h1 ss1), I 0])), (25, sI), (41, sSA), (42, sSameReads)] [] [] [(16, fK1 h h1 ss ss1), (22, fK2 h h1 ss ss1)]) Tryz.f15 [.agg (macL 0 h ss), I i] K) = (([] : List DV) = [] ∧ [DV.agg (macL (0) h ss), I i] = [DV.agg (macL (0) h ss), I i] ∧ bif decide (i < 0) then K (B false) else bif decide (i ≥ @Nat.cast Int _ (List.length (List.map (sesL (0)) ss1))) then K (B false) else bif decide (i ≥ @Nat.cast Int _ (List.length (List.map (sesL (0)) ss))) then K (B false) else bif @Nat.cast Int _ (List.length (List.map (sesL (0)) ss1)) != @Nat.cast Int _ (List.length (List.map (sesL (0)) ss)) then K (B false) else bif decide (0 ≤ i) && decide (i < @Nat.cast Int _ (List.length (List.map (sesL (0)) ss))) then ∃ s, sesAt (List.map (sesL (0)) ss) (Int.toNat i) (0) s ∧ bif decide (0 ≤ i) && decide (i < @Nat.cast Int _ (List.length (List.map (sesL (0)) ss1))) then ∃ s_1, sesAt (List.map (sesL (0)) ss1) (Int.toNat i) (0) s_1 ∧ bif decide (s.pc < 0) then K (B false) else bif decide (s.pc ≥ @Nat.cast Int _ (List.length s.pg)) then K (B false) else bif s_1.pc != IntKind.wrap IntKind.i64 (s.pc + 1) then K (B false) else bif okA h1.w0 h1.w1 h1.w2 h1.w3 && okA h.w0 h.w1 h.w2 h.w3 then bif !sameA h1.w0 h1.w1 h1.w2 h1.w3 h.w0 h.w1 h.w2 h.w3 then K (B false) else bif !eqI [h1.c0, h1.c1, h1.c2, h1.c3] [h.c0, h.c1, h.c2, h.c3] then K (B false) else bif decide (0 ≤ s.pc) && decide (s.pc < @Nat.cast Int _ (List.length s.pg)) then bif iOK s then bif decide (iA s < 0) then K (B false) else bif decide (iA s ≥ 4) then K (B false) else (okZ (3) s_1.wt = true ∧ Nat.le (List.length s_1.wt) (16) ∧ lab (iA s) = true) ∧ stK1 h h1 ss ss1 i s s_1 (iC s) (iA s) (iB s) (iD s) (inB (toZ s_1.wt) (iB s) (iD s) (regAt s (iA s)) (0)) (0) = stK1 h h1 ss ss1 i s s_1 (iC s) (iA s) (iB s) (iD s) (inB (toZ s_1.wt) (iB s) (iD s) (regAt s (iA s)) (0)) (0) ∧ (∀ (i : Nat), firstAt (fun x => false) (List.length s_1.wt) i → K (B false)) ∧ (noneTo (fun x => false) (List.length s_1.wt) → List.length ss = List.length ss1 ∧ stK2 h h1 ss ss1 i s s_1 (inB (toZ s_1.wt) (iB s) (iD s) (regAt s (iA s)) (List.length s_1.wt)) false (0) = stK2 h h1 ss ss1 i s s_1 (inB (toZ s_1.wt) (iB s) (iD s) (regAt s (iA s)) (List.length s_1.wt)) false (0) ∧ (∀ (i_1 : Nat), firstAt (badK ss ss1 i) (List.length ss) i_1 → K (B false)) ∧ (noneTo (badK ss ss1 i) (List.length ss) → bif inB (toZ s_1.wt) (iB s) (iD s) (regAt s (iA s)) (List.length s_1.wt) then bif okZ (3) s.rd && okZ (3) s_1.rd then bif decide (toZ s.rd = toZ s_1.rd) then bif eqI [s_1.r0, s_1.r1, s_1.r2, s_1.r3] [s.r0, s.r1, s.r2, s.r3] then K (B (s_1.lb == s.lb)) else K (B false) else K (B false) else False else K (B false))) else False else False else False else False else False) := by kernel_rfl
end

section
set_option maxHeartbeats 2000000
open Go Go.Proofs
set_option linter.unusedSimpArgs false
set_option linter.unusedVariables false
set_option maxRecDepth 100000
theorem row3g {l : List (List Int)} (hw : wid 3 l) {i : Nat} (hi : i < l.length) : ∃ a b c, l.getD i [] = [a, b, c] := by
  have := hw _ (List.getElem_mem hi)
  have e : l.getD i [] = l[i] := by rw [List.getD_eq_getElem?_getD, List.getElem?_eq_getElem hi]; rfl
  rw [e]
  match l[i], this with
  | [a, b, c], _ => exact ⟨a, b, c, rfl⟩
theorem lab_is {a : Int} (h : lab a = true) : a = 0 ∨ a = 1 ∨ a = 2 ∨ a = 3 := lab_cases h
theorem kK1 {h h1 : Mh} {ss ss1 : List SesD} (Q : Exit → X → Prop) (x : X) (hq : fK1 h h1 ss ss1 Q x) : XWP Tryz.prog (.loop (bodyL Tryz.f15 0)) Q x := by
  unfold fK1 at hq
  obtain ⟨i0, hq⟩ := wI_ex hq
  obtain ⟨s, hq⟩ := wSes_ex hq
  obtain ⟨y, hq⟩ := wSes_ex hq
  obtain ⟨r, hq⟩ := wR_ex hq
  obtain ⟨ds, hq⟩ := allD_ex hq
  obtain ⟨c, a, b, d, ⟨hz, hl, ha⟩, hq⟩ := int4_ex hq
  obtain ⟨e, w, _⟩ := okZ_spec hz
  generalize hR : toZ y.wt = R at e w hq
  have hlen : y.wt.length = R.length := by rw [e, mZ_len]
  refine xwp_findV (sw := []) (V := v_stK1 h h1 ss ss1 i0 s y c a b d) (VE := fun _ => v_stK1 h h1 ss ss1 i0 s y c a b d) mixed (v_stK1_ok h h1 ss ss1 i0 s y c a b d) (fun _ => v_stK1_ok h h1 ss ss1 i0 s y c a b d) _ _ _ _ _ _ (fun i hi => ⟨hkF [] [] [], hkF_ok .nil .nil .nil, loops_nil rfl, fun N E q1 q2 => ?_⟩) ⟨hkF [] [] [], hkF_ok .nil .nil .nil, loops_nil rfl, fun N E q1 => ?_⟩ Q x hq
  · rw [rK1]
    have wi : IntKind.wrap IntKind.i64 ((i : Int) + 1) = ((i + 1 : Nat) : Int) := wrap_nat (n := 1) (by omega)
    have hiR : i < R.length := by omega
    obtain ⟨r0, r1, r2, hr⟩ := row3g w hiR
    have hg : List.getD y.wt i [] = [vI r0, vI r1, vI r2] := by
      rw [e, mZ_getD, hr]; rfl
    simp only [Int.ofNat_lt, hi, decide_true, cond_true, Int.natCast_nonneg, Bool.and_self, Int.toNat_natCast, wi, hg, List.drop_zero, List.tail_cons]
    have q2 := q2 rfl
    simp only [inB, hr, List.getD_cons_zero, List.getD_cons_succ] at q2
    show bif r0 == b then bif r1 == d then _ else _ else _
    generalize (r0 == b) = u0 at q2 ⊢
    generalize (r1 == d) = u1 at q2 ⊢
    cases u0
    · exact ⟨trivial, q2⟩
    · cases u1
      · exact ⟨trivial, q2⟩
      · rcases lab_is ha with rfl | rfl | rfl | rfl
        · exact ⟨trivial, q2⟩
        · exact ⟨trivial, q2⟩
        · exact ⟨trivial, q2⟩
        · exact ⟨trivial, q2⟩
  · rw [rK1]
    simp only [Int.ofNat_lt, Nat.lt_irrefl, decide_false, cond_false, true_and]
    exact q1
theorem kK2 {h h1 : Mh} {ss ss1 : List SesD} (hs : okSS ss = true) (hs1 : okSS ss1 = true) (hn : ss.length ≤ 4) (Q : Exit → X → Prop) (x : X) (hq : fK2 h h1 ss ss1 Q x) : XWP Tryz.prog (.loop (bodyL Tryz.f15 1)) Q x := by
  unfold fK2 at hq
  obtain ⟨i0, hq⟩ := wI_ex hq
  obtain ⟨v, hq⟩ := wB_ex hq
  obtain ⟨s, hq⟩ := wSes_ex hq
  obtain ⟨y, hl, hq⟩ := wSes_ex hq
  have p1 := List.all_eq_true.1 hs
  have p2 := List.all_eq_true.1 hs1
  refine xwp_findV (sw := []) (V := v_stK2 h h1 ss ss1 i0 s y v) (VE := fun _ => v_stK2 h h1 ss ss1 i0 s y v) mixed (v_stK2_ok h h1 ss ss1 i0 s y v) (fun _ => v_stK2_ok h h1 ss ss1 i0 s y v) _ _ _ _ _ _ (fun i hi => ⟨hkF [(32, sSS)] [] [], hkF_ok (.cons oSS .nil) .nil .nil, loops_nil rfl, fun N E q1 q2 => ?_⟩) ⟨hkF [(32, sSS)] [] [], hkF_ok (.cons oSS .nil) .nil .nil, loops_nil rfl, fun N E q1 => ?_⟩ Q x hq
  · rw [rK2]
    have wi : IntKind.wrap IntKind.i64 ((i : Int) + 1) = ((i + 1 : Nat) : Int) := wrap_nat (n := 1) (by omega)
    have hi' : i < ss1.length := by omega
    simp only [List.length_map, Int.ofNat_lt, hi, hi', decide_true, cond_true, Int.natCast_nonneg, Bool.and_self, Int.toNat_natCast, wi]
    unfold badK at q1 q2
    by_cases he : (i : Int) = i0
    · have e1 : ((i : Int) != i0) = false := by rw [he]; simp
      rw [e1]
      exact ⟨trivial, q2 (by rw [decide_eq_false (by simpa using he)]; rfl)⟩
    · have e1 : ((i : Int) != i0) = true := by simpa using he
      rw [e1]
      rw [decide_eq_true he, Bool.true_and] at q1 q2
      refine ⟨sesN ss1 i, sesN_at hi', sesN ss i, sesN_at hi, ?_⟩
      rw [p1 _ (sesN_mem hi), p2 _ (sesN_mem hi')]
      generalize sameS (sesN ss1 i) (sesN ss i) = u at q1 q2 ⊢
      cases u
      · exact ⟨trivial, q1 rfl⟩
      · exact ⟨trivial, q2 rfl⟩
  · rw [rK2]
    simp only [List.length_map, Int.ofNat_lt, Nat.lt_irrefl, decide_false, cond_false, true_and]
    exact q1
theorem inB_after {L : List (List Int)} {lv ix v : Int} {m : Nat} (hs : ∀ k, m < k → k < L.length → key (L.getD k []) ≠ 4 * lv + ix) (hm : m < L.length) (e0 : (L.getD m []).getD 0 0 = lv) (e1 : (L.getD m []).getD 1 0 = ix) (e2 : (L.getD m []).getD 2 0 = v) : ∀ k, m < k → k ≤ L.length → inB L lv ix v k = true
  | 0, h, _ => by omega
  | k + 1, h, hk => by
    unfold inB
    by_cases hmk : m = k
    · subst hmk
      rw [e0, e1, e2]; simp
    · have ih := inB_after hs hm e0 e1 e2 k (by omega) (by omega)
      have hne := hs k (by omega) (by omega)
      cases h0 : (L.getD k []).getD 0 0 == lv
      · exact ih
      · cases h1 : (L.getD k []).getD 1 0 == ix
        · exact ih
        · have h0 : (L.getD k []).getD 0 0 = lv := by simpa using h0
          have h1 : (L.getD k []).getD 1 0 = ix := by simpa using h1
          exact (hne (by unfold key; rw [h0, h1])).elim
theorem put_after {l : List (List Int)} {r : List Int} (hws : okWs l) : ∀ k, lessW l (key r) < k → k < (putW l r).length → key ((putW l r).getD k []) ≠ key r := by
  intro k h1 h2
  have h0 := lessW_le l (key r)
  generalize hm : lessW l (key r) = m at *
  unfold putW at h2 ⊢
  rw [hm] at h2 ⊢
  obtain ⟨j, rfl⟩ : ∃ j, k = m + 1 + j := ⟨k - (m + 1), by omega⟩
  have e : ∀ q, (l.take m ++ r :: l.drop q).getD (m + 1 + j) [] = l.getD (q + j) [] := fun q => by
    rw [List.getD_eq_getElem?_getD, List.getElem?_append_right (by simp; omega), List.length_take, Nat.min_eq_left h0, show m + 1 + j - m = j + 1 by omega, List.getElem?_cons_succ, List.getElem?_drop, List.getD_eq_getElem?_getD]
  rw [e]
  cases hh : hasW l (key r)
  · rw [hh] at h2
    simp only [cond_false, List.length_append, List.length_cons, List.length_drop, List.length_take, Nat.min_eq_left h0] at h2 ⊢
    have hl : m < l.length := by omega
    have g := lessW_at (l := l) (k := key r) (by rw [hm]; exact hl)
    rw [hm] at g
    have ne : key (l.getD m []) ≠ key r := by
      unfold hasW at hh
      rw [hm, decide_eq_true hl, Bool.true_and] at hh
      exact of_decide_eq_false hh
    cases j with
    | zero => exact ne
    | succ j =>
      have := okWs_lt hws m (m + (j + 1)) (by omega) (by omega)
      omega
  · rw [hh] at h2
    simp only [cond_true, List.length_append, List.length_cons, List.length_drop, List.length_take, Nat.min_eq_left h0] at h2 ⊢
    unfold hasW at hh
    rw [hm, Bool.and_eq_true] at hh
    have eq := of_decide_eq_true hh.2
    have := okWs_lt hws m (m + 1 + j) (by omega) (by omega)
    omega
theorem putW_at (l : List (List Int)) (r : List Int) : (putW l r).getD (lessW l (key r)) [] = r ∧ lessW l (key r) < (putW l r).length := by
  have h0 := lessW_le l (key r)
  unfold putW
  refine ⟨?_, by simp; omega⟩
  rw [List.getD_eq_getElem?_getD, List.getElem?_append_right (by simp; omega)]
  simp [Nat.min_eq_left h0]
theorem Foc.stE {h : Mh} {ss : List SesD} {i : Int} {s : SesD} (f : Foc h ss i s) (h1 : s.pc < s.pg.length) (h3 : iC s = 3) : wrmay (toZ s.wt) = true ∧ okw [iB s, iD s, regAt s (iA s)] = true ∧ lab (iA s) = true := by
  have hm := (ins_may f.ok f.may h1).1
  have hA := imay_A hm (.inr (.inr (.inr (.inl h3))))
  obtain ⟨b1, b2⟩ := imay_BD hm (.inr h3)
  obtain ⟨v0, v1, v2, v3⟩ := ses_regs f.may
  have hv : val8 (regAt s (iA s)) = true := by
    rcases hA with e | e | e | e <;> rw [e]
    · exact v0
    · exact v1
    · exact v2
    · exact v3
  have hl : lab (iA s) = true := by rcases hA with e | e | e | e <;> rw [e] <;> rfl
  refine ⟨ses_wr f.may, ?_, hl⟩
  have b3 : ix4 (iD s) = true := b2
  unfold okw
  simp [b1, b3, hv]
theorem storeS_in {s : SesD} (hw : wrmay (toZ s.wt) = true) (hk : okw [iB s, iD s, regAt s (iA s)] = true) : inB (toZ (storeS s).wt) (iB s) (iD s) (regAt s (iA s)) (storeS s).wt.length = true := by
  have e : toZ (storeS s).wt = putW (toZ s.wt) [iB s, iD s, regAt s (iA s)] := by
    show toZ (mZ (withW (toZ s.wt) [iB s, iD s, regAt s (iA s)])) = _
    rw [toZ_mZ]; unfold withW; rw [hw, hk]; rfl
  have hl : (storeS s).wt.length = (putW (toZ s.wt) [iB s, iD s, regAt s (iA s)]).length := by rw [← e, toZ_len]
  rw [hl, e]
  obtain ⟨a1, a2⟩ := putW_at (toZ s.wt) [iB s, iD s, regAt s (iA s)]
  exact inB_after (put_after ((wmay_iff _).1 hw).2) a2 (congrArg (fun r : List Int => r.getD 0 0) a1) (congrArg (fun r : List Int => r.getD 1 0) a1) (congrArg (fun r : List Int => r.getD 2 0) a1) _ a2 (Nat.le_refl _)
theorem wid_with {l : List (List Int)} {a b c : Int} (hw : wid 3 l) : wid 3 (withW l [a, b, c]) := by
  unfold withW
  cases wrmay l && okw [a, b, c]
  · intro r hr; cases hr
  · intro r hr
    simp only [cond_true] at hr
    unfold putW at hr
    rcases List.mem_append.1 hr with q | q
    · exact hw r (List.mem_of_mem_take q)
    · rcases List.mem_cons.1 q with rfl | q
      · rfl
      · exact hw r (List.mem_of_mem_drop q)
theorem sto_z {s : SesD} (hs : okSes s = true) (hl : s.wt.length ≤ 16) : okZ 3 (storeS s).wt = true := by
  show okZ 3 (mZ (withW (toZ s.wt) [iB s, iD s, regAt s (iA s)])) = true
  refine okZ_mZ (wid_with (okZ_spec (okSes_z hs).2.2).2.1) ?_
  have := withW_len (toZ s.wt) [iB s, iD s, regAt s (iA s)]
  rw [toZ_len] at this
  omega
theorem sto_ok {s : SesD} (hs : okSes s = true) (hl : s.wt.length ≤ 16) : okSes (storeS s) = true := by
  unfold okSes
  rw [show (storeS s).pg = s.pg from rfl, show (storeS s).rd = s.rd from rfl, (okSes_z hs).1, (okSes_z hs).2.1, sto_z hs hl]; rfl
theorem okSS_set {ss : List SesD} {s : SesD} {j : Nat} (h : okSS ss = true) (hs : okSes s = true) : okSS (ss.set j s) = true := by
  unfold okSS at *
  rw [List.all_eq_true] at *
  intro x hx
  rcases List.mem_or_eq_of_mem_set hx with q | q
  · exact h x q
  · rw [q]; exact hs
theorem sto_len {s : SesD} (hw : wrmay (toZ s.wt) = true) (hk : okw [iB s, iD s, regAt s (iA s)] = true) : (storeS s).wt.length ≤ 16 := by
  show (mZ (withW (toZ s.wt) [iB s, iD s, regAt s (iA s)])).length ≤ 16
  rw [mZ_len]
  have h16 := wrmay_len hw
  by_cases hl : (toZ s.wt).length < 16
  · have := withW_len (toZ s.wt) [iB s, iD s, regAt s (iA s)]; omega
  · have hf : hasW (toZ s.wt) (key [iB s, iD s, regAt s (iA s)]) = true := okWs_full ((wmay_iff _).1 hw).2 (by omega) (by
      obtain ⟨⟨⟨a1, a2⟩, b1, b2⟩, _⟩ := okw_in hk
      unfold key; omega)
    unfold withW putW
    rw [hw, hk, hf]
    have h0 := lessW_le (toZ s.wt) (key [iB s, iD s, regAt s (iA s)])
    unfold hasW at hf
    rw [Bool.and_eq_true] at hf
    have := of_decide_eq_true hf.1
    simp only [Bool.and_self, cond_true, List.length_append, List.length_cons, List.length_drop, List.length_take, Nat.min_eq_left h0]
    omega
theorem gSto : Goes Tryz.prog 38 := goes_of Tryz.func38 (by kernel_rfl) rfl
theorem cSK (h : Mh) (ss : List SesD) (i : Int) (hok : okM h ss = true) : CT Tryz.prog 15 [.agg (macL 0 h ss), I i] (B true) := by
  have hc := cSto h ss i hok
  cases hm : mAt (has1 3) h ss i with
  | false =>
    simp only [hm, cond_false] at hc
    refine ct_wL (.cons oAw16 (.cons (oAtD gSto hc rfl rfl) (.cons oNum (.cons oSM .nil)))) .nil .nil mixed (m := []) (fun j hj s' hs' => by cases hs') Tryz.func15 rfl rfl rfl ?_
    rw [eK0]
    exact ⟨⟨rfl, rfl, AL.refl _⟩⟩
  | true =>
    obtain ⟨s, f, hst, hp0, hp1, hp2, hcode⟩ := mAt_spec hok hm
    simp only [hm, f.getD, cond_true] at hc
    obtain ⟨k1, k2, k3⟩ := f.stE hp1 (has1_spec hcode)
    have hsm : smM (storeM h s) (ss.set i.toNat (storeS s)) = true := smM_set (smM_tr (h' := storeM h s) f.sm (sto_w _ _).1 (sto_w _ _).2.1 (sto_w _ _).2.2.1 (sto_w _ _).2.2.2 (tellE_tr f.smtr f.tl _ _ _ _)) _ (storeS_sm f.smS f.wtl)
    have hll : (ss.set i.toNat (storeS s)).length = ss.length := List.length_set
    have hat : (ss.set i.toNat (storeS s))[i.toNat]? = some (storeS s) := by rw [List.getElem?_set_self f.lt]
    have hos : okSS ss = true := (okM_spec hok).2.2
    have hos1 : okSS (ss.set i.toNat (storeS s)) = true := okSS_set hos (sto_ok f.ok f.wtl)
    have kk : LoopsL Tryz.prog Tryz.f15 [(16, fK1 h (storeM h s) ss (ss.set i.toNat (storeS s))), (22, fK2 h (storeM h s) ss (ss.set i.toNat (storeS s)))] := fun j hj s' hs' Q x hq => by
      have hj2 : j < 2 := hj
      have : j = 0 ∨ j = 1 := by omega
      rcases this with rfl | rfl
      · cases hs'; exact kK1 Q x hq
      · cases hs'; exact kK2 hos hos1 f.len Q x hq
    refine ct_wL (.cons oAw16 (.cons (oAtZ gSto hc (own_macR hsm 0) (frz_macR _ _ _) rfl) (.cons oNum (.cons oSA (.cons oSameReads .nil))))) .nil .nil mixed kk Tryz.func15 rfl rfl rfl ?_
    rw [show macZ (storeM h s) (ss.set i.toNat (storeS s)) 0 = .tup [.agg (macL 0 (storeM h s) (ss.set i.toNat (storeS s))), I 0] from rfl, eK1]
    have l0 := f.lt
    have l1 : i.toNat < (ss.set i.toNat (storeS s)).length := by rw [hll]; exact l0
    have n0 : ¬ i < 0 := by have := f.i0; omega
    have n1 : ¬ i ≥ @Nat.cast Int _ (List.length (List.map (sesL 0) (ss.set i.toNat (storeS s)))) := by rw [List.length_map]; have := f.i0; omega
    have n2 : ¬ i ≥ @Nat.cast Int _ (List.length (List.map (sesL 0) ss)) := by rw [List.length_map]; have := f.i0; omega
    have n3 : (@Nat.cast Int _ (List.length (List.map (sesL 0) (ss.set i.toNat (storeS s)))) != @Nat.cast Int _ (List.length (List.map (sesL 0) ss))) = false := by rw [List.length_map, List.length_map, hll]; simp
    have hpc : (decide (0 ≤ s.pc) && decide (s.pc < @Nat.cast Int _ (List.length s.pg))) = true := by rw [decide_eq_true hp0, decide_eq_true hp1]; rfl
    have hw : IntKind.wrap IntKind.i64 (s.pc + 1) = s.pc + 1 := wrap1 hp0 (by omega)
    have n4 : ((storeS s).pc != IntKind.wrap IntKind.i64 (s.pc + 1)) = false := by rw [hw]; show (s.pc + 1 != s.pc + 1) = false; simp
    have ha0 : ¬ iA s < 0 := by rcases lab_is k3 with e | e | e | e <;> rw [e] <;> omega
    have ha1 : ¬ iA s ≥ 4 := by rcases lab_is k3 with e | e | e | e <;> rw [e] <;> omega
    obtain ⟨z1, z2, z3⟩ := okSes_z f.ok
    have hoA : okA h.w0 h.w1 h.w2 h.w3 = true := (okM_spec hok).1
    have n5 : eqI [(storeM h s).c0, (storeM h s).c1, (storeM h s).c2, (storeM h s).c3] [h.c0, h.c1, h.c2, h.c3] = true := eqI4.2 ⟨rfl, rfl, rfl, rfl⟩
    refine ⟨⟨rfl, rfl, ?_⟩⟩
    simp only [decide_eq_false n0, decide_eq_false n1, decide_eq_false n2, n3, cond_false, ixTrue f.i0 l0, ixTrue f.i0 l1, cond_true]
    refine ⟨s, sesAt_map f.at', storeS s, sesAt_map hat, ?_⟩
    simp only [decide_eq_false (show ¬ s.pc < 0 by omega), decide_eq_false (show ¬ s.pc ≥ @Nat.cast Int _ (List.length s.pg) by omega), n4, cond_false, (sto_w h s).1, (sto_w h s).2.1, (sto_w h s).2.2.1, (sto_w h s).2.2.2, hoA, Bool.and_self, cond_true, (sameA_eq hoA hoA).2 ⟨rfl, rfl, rfl, rfl⟩, Bool.not_true, hpc, ins_ok f.ok hp0 hp1, decide_eq_false ha0, decide_eq_false ha1, n5]
    have hl17 : (storeS s).wt.length ≤ 16 := sto_len k1 k2
    refine ⟨⟨sto_z f.ok f.wtl, hl17, k3⟩, trivial, fun j hj => (by cases hj.2.1), fun _ => ⟨hll.symm, trivial, fun j hj => ?_, fun hn => ?_⟩⟩
    · exfalso
      obtain ⟨g1, g2, _⟩ := hj
      unfold badK at g2
      rw [Bool.and_eq_true] at g2
      have hne : (j : Int) ≠ i := of_decide_eq_true g2.1
      have hne' : i.toNat ≠ j := by have := f.i0; omega
      have e : sesN (ss.set i.toNat (storeS s)) j = sesN ss j := by
        unfold sesN
        rw [List.getD_eq_getElem?_getD, List.getElem?_set_ne hne', List.getD_eq_getElem?_getD]
      have q := List.all_eq_true.1 hos _ (sesN_mem g1)
      rw [e, (sameS_eq q q).2 rfl] at g2
      cases g2.2
    · rw [storeS_in k1 k2]
      simp only [cond_true, show (storeS s).rd = s.rd from rfl, z2, Bool.and_self, decide_true, show (storeS s).r0 = s.r0 from rfl, show (storeS s).r1 = s.r1 from rfl, show (storeS s).r2 = s.r2 from rfl, show (storeS s).r3 = s.r3 from rfl, show (storeS s).lb = s.lb from rfl, eqI4.2 ⟨rfl, rfl, rfl, rfl⟩, beq_self_eq_true]
      exact AL.refl _
theorem cSKg (xs : List D) (i : Int) (g : GoodL kMac xs) : CT Tryz.prog 15 [.agg xs, I i] (B true) := by
  obtain ⟨h, ss, rfl, ho, _⟩ := gMac g
  exact cSK h ss i ho
end

end Vm
