/- What the functions of this text do, told by an interpreter that is proved right (YtpgkfdehflimcaaVA to VD). My own work. -/
import Derived.Test.YtpgkfdehflimcaaVClkB
namespace Vm
open Go Go.Proofs
set_option linter.unusedSimpArgs false
set_option linter.unusedVariables false
theorem nx_may {a b c d l m : Int} (h : may4 a b c d m = false) : nx a b c d l m = ⟨0, 0, 0, 0, 0, 500⟩ := by simp [nx, h]
theorem nx_lab {a b c d l m : Int} (h : lab l = false) : nx a b c d l m = ⟨0, 0, 0, 0, 0, 500⟩ := by simp [nx, h]
theorem c5 (which x : Int) : CT Try.prog 5 [I which, I x] (B true) := by
  refine ct_askL (l := [(21, sNx), (23, sI), (24, sT)]) (m := []) (.cons o21 (.cons o23 (.cons o24 .nil))) mixed (loops_nil rfl) Try.func5 rfl rfl rfl ?_
  show askA band bor Try.prog _ _ Try.f5 _ _
  rw [e5]
  have hg : band which 3 = 0 ∨ band which 3 = 1 ∨ band which 3 = 2 ∨ band which 3 = 3 := by rw [mask2]; omega
  have ho : band which 1 = 0 ∨ band which 1 = 1 := by rw [mask1]; omega
  have hi : band (Int.fdiv which 16) 3 = 0 ∨ band (Int.fdiv which 16) 3 = 1 ∨ band (Int.fdiv which 16) 3 = 2 ∨ band (Int.fdiv which 16) 3 = 3 := by rw [mask2]; omega
  have hy0 : 0 ≤ band x 1023 := by rw [mask10]; omega
  have hy1 : band x 1023 ≤ 1023 := by rw [mask10]; omega
  generalize band x 1023 = y at *
  generalize band which 3 = g at *
  generalize band which 1 = o at *
  generalize band (Int.fdiv which 16) 3 = i at *
  generalize Int.tmod (Int.fdiv (IntKind.wrap IntKind.u64 which) 4) 4 = q
  have w1 : IntKind.wrap .i64 (1 + y) = 1 + y := wrap_id (by omega) (by omega)
  have w2 : IntKind.wrap .i64 (0 - (1 + y)) = 0 - (1 + y) := wrap_id (by omega) (by omega)
  have w3 : IntKind.wrap .i64 (65535 + (1 + y)) = 65535 + (1 + y) := wrap_id (by omega) (by omega)
  have w4 : IntKind.wrap .i64 (3 + (1 + y)) = 3 + (1 + y) := wrap_id (by omega) (by omega)
  simp only [w1, w2, w3, w4]
  have b1 : clk (0 - (1 + y)) = false := by unfold clk upto; simp; omega
  have b2 : clk (65535 + (1 + y)) = false := by unfold clk upto; simp; omega
  have b3 : lab (0 - (1 + y)) = false := by unfold lab upto; simp; omega
  have b4 : lab (3 + (1 + y)) = false := by unfold lab upto; simp; omega
  generalize 0 - (1 + y) = m1 at *
  generalize 65535 + (1 + y) = m2 at *
  generalize 3 + (1 + y) = m3 at *
  have c3 : clk 3 = true := rfl
  have c9 : clk 9 = true := rfl
  have f1 : nx 9 9 9 9 g 9 = ⟨0, 0, 0, 0, 0, 501⟩ := by rcases hg with rfl | rfl | rfl | rfl <;> rfl
  have f2 : nx 9 9 9 9 g 3 = ⟨0, 0, 0, 0, 0, 501⟩ := by rcases hg with rfl | rfl | rfl | rfl <;> rfl
  rw [f1, f2]
  cases (q == 0) with
  | true => rcases hi with rfl | rfl | rfl | rfl <;> simp [splice, addN, mulN, isK, hdI, nx_may, may4, b1, eqI]
  | false =>
    cases (q == 1) with
    | true => rcases hi with rfl | rfl | rfl | rfl <;> simp [splice, addN, mulN, isK, hdI, nx_may, may4, b2, eqI]
    | false =>
      cases (q == 2) with
      | true => rcases ho with rfl | rfl <;> simp [addN, mulN, isK, isJ, hdI, hdJ, nx_lab, b3, b4, eqI]
      | false => rcases ho with rfl | rfl <;> simp [addN, mulN, isK, isJ, hdI, hdJ, nx_may, may4, b1, b2, eqI]
end Vm
