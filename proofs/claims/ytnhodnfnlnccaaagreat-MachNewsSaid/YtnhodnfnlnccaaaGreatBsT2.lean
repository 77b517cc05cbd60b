/- An interpreter for Go's texts over plain data, its proof, and what it says of the functions that the law reaches. My own work. -/
import Derived.Test.YtnhodnfnlnccaaaGreatBs5
namespace Vm
section
set_option maxHeartbeats 2000000
open Go Go.Proofs
set_option linter.unusedSimpArgs false
set_option linter.unusedVariables false
set_option maxRecDepth 100000
theorem eMN (an : Int → Int → Int) (w x : Int) (K : DV → Prop) : (askH Tryz.prog (hkN an [(30, sAtD [] (B true)), (24, sSM), (25, sI)] [] [(20, iNew)]) Tryz.f5 [I w, I x] K) = (([] : List DV) = [] ∧ bif Int.tmod (IntKind.wrap IntKind.u64 w) (9) == 0 then bif amay (toZ [[vN (List.getD [IntKind.wrap IntKind.i64 (0 - IntKind.wrap IntKind.i64 (1 + an x (1023)))] (0) (0)), vN (0), vN (0)]]) (toZ []) (toZ []) (toZ []) then bif !mmay { w0 := [[vN (List.getD [IntKind.wrap IntKind.i64 (0 - IntKind.wrap IntKind.i64 (1 + an x (1023)))] (0) (0)), vN (0), vN (0)]], w1 := [], w2 := [], w3 := [], c0 := 0, c1 := 0, c2 := 0, c3 := 0, ce := 5, tr := [] } [{ id := 3, lb := 0, cl := 0, pg := [[vN (2), vN (0), vN (0), vN (0)]], st := 0, pc := 0, r0 := 0, r1 := 0, r2 := 0, r3 := 0, rd := [], wt := [], at' := 0, sp := 0, tr := 0, rs := 0, to := 0 }, { id := 5, lb := 0, cl := 0, pg := [], st := 0, pc := 0, r0 := 0, r1 := 0, r2 := 0, r3 := 0, rd := [], wt := [], at' := 0, sp := 0, tr := 0, rs := 0, to := 0 }] then K (B true) else K (B false) else K (B true) else bif Int.tmod (IntKind.wrap IntKind.u64 w) (9) == 1 then K (B true) else bif Int.tmod (IntKind.wrap IntKind.u64 w) (9) == 2 then bif !mmay { w0 := [[vN (1), vN (0), vN (0)]], w1 := [], w2 := [], w3 := [], c0 := 0, c1 := 0, c2 := 0, c3 := 0, ce := IntKind.wrap IntKind.i64 (65535 + IntKind.wrap IntKind.i64 (1 + an x (1023))), tr := [] } [{ id := 3, lb := 0, cl := 0, pg := [[vN (2), vN (0), vN (0), vN (0)]], st := 0, pc := 0, r0 := 0, r1 := 0, r2 := 0, r3 := 0, rd := [], wt := [], at' := 0, sp := 0, tr := 0, rs := 0, to := 0 }, { id := 5, lb := 0, cl := 0, pg := [], st := 0, pc := 0, r0 := 0, r1 := 0, r2 := 0, r3 := 0, rd := [], wt := [], at' := 0, sp := 0, tr := 0, rs := 0, to := 0 }] then K (B true) else K (B false) else bif Int.tmod (IntKind.wrap IntKind.u64 w) (9) == 3 then K (B true) else bif Int.tmod (IntKind.wrap IntKind.u64 w) (9) == 4 then K (B true) else bif Int.tmod (IntKind.wrap IntKind.u64 w) (9) == 5 then K (B true) else bif Int.tmod (IntKind.wrap IntKind.u64 w) (9) == 6 then K (B true) else bif Int.tmod (IntKind.wrap IntKind.u64 w) (9) == 7 then K (B true) else K (B true)) := by kernel_rfl
theorem cMN (w x : Int) : CT Tryz.prog 5 [I w, I x] (B true) := by
  refine ct_h (hkN_ok (.cons oAw12 (.cons oSM (.cons oNum .nil))) .nil (.cons iNew_ok .nil)) mixed hkN_loops Tryz.func5 rfl rfl rfl ?_
  rw [eMN]
  refine ⟨⟨rfl, ?_⟩⟩
  obtain ⟨d, hd, d1, d2⟩ := d1023 x
  obtain ⟨u0, u1⟩ := umod (w := w) (n := 9) (by omega)
  simp only [hd, wrap_id (x := 0 - d) (by omega) (by omega), wrap_id (x := 65535 + d) (by omega) (by omega)]
  generalize Int.tmod (IntKind.wrap IntKind.u64 w) 9 = u at u0 u1 ⊢
  have hu : u = 0 ∨ u = 1 ∨ u = 2 ∨ u = 3 ∨ u = 4 ∨ u = 5 ∨ u = 6 ∨ u = 7 ∨ u = 8 := by omega
  rcases hu with rfl | rfl | rfl | rfl | rfl | rfl | rfl | rfl | rfl <;> simp only [Int.reduceBEq, cond_true, cond_false, true_and]
  · have : amay (toZ [[vN (List.getD [0 - d] 0 0), vN 0, vN 0]]) (toZ []) (toZ []) (toZ []) = false := by
      simp [amay, rowMay, badW, toZ, dI, wmayR, wmay, val8, upto_f (x := -d) (lo := 0) (hi := 255) (by omega)]
    simp only [this, cond_false]
  · rw [mm_ck (by simp [clkB, clk, upto_f (x := 65535 + d) (lo := 0) (hi := 65535) (by omega)])]; exact trivial
end

end Vm
