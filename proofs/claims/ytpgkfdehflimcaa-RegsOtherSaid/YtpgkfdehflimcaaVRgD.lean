/- What the functions of this text do, told by an interpreter that is proved right (YtpgkfdehflimcaaVA to VD). My own work. -/
import Derived.Test.YtpgkfdehflimcaaVRgB
namespace Vm
open Go Go.Proofs
set_option linter.unusedSimpArgs false
set_option linter.unusedVariables false
theorem setR_v4 {a b c d i v : Int} (h : v4 a b c d = false) : setR a b c d i v = ⟨0, 0, 0, 0, 600⟩ := by simp [setR, h]
theorem setR_lab {a b c d i v : Int} (h : lab i = false) : setR a b c d i v = ⟨0, 0, 0, 0, 600⟩ := by simp [setR, h]
theorem setR_val {a b c d i v : Int} (h : val8 v = false) : setR a b c d i v = ⟨0, 0, 0, 0, 600⟩ := by simp [setR, h]
theorem addR_v4 {a b c d i v : Int} (h : v4 a b c d = false) : addR a b c d i v = ⟨0, 0, 0, 0, 600⟩ := by simp [addR, h]
theorem addR_lab {a b c d i v : Int} (h : lab i = false) : addR a b c d i v = ⟨0, 0, 0, 0, 600⟩ := by simp [addR, h]
theorem addR_lab2 {a b c d i v : Int} (h : lab v = false) : addR a b c d i v = ⟨0, 0, 0, 0, 600⟩ := by simp [addR, h]
theorem c8 (which x : Int) : CT Try.prog 8 [I which, I x] (B true) := by
  refine ct_askL (l := [(25, sSet), (27, sAdd), (23, sI), (29, sT)]) (m := []) (.cons o25 (.cons o27 (.cons o23 (.cons o29 .nil)))) mixed (loops_nil rfl) Try.func8 rfl rfl rfl ?_
  show askA band bor Try.prog _ _ Try.f8 _ _
  rw [e8]
  have hg : band which 3 = 0 ∨ band which 3 = 1 ∨ band which 3 = 2 ∨ band which 3 = 3 := by rw [mask2]; omega
  have ho : band (Int.fdiv which 4) 1 = 0 ∨ band (Int.fdiv which 4) 1 = 1 := by rw [mask1]; omega
  have hy0 : 0 ≤ band x 1023 := by rw [mask10]; omega
  have hy1 : band x 1023 ≤ 1023 := by rw [mask10]; omega
  generalize band x 1023 = y at *
  generalize band which 3 = g at *
  generalize band (Int.fdiv which 4) 1 = o at *
  have w1 : IntKind.wrap .i64 (1 + y) = 1 + y := wrap_id (by omega) (by omega)
  have w2 : IntKind.wrap .i64 (0 - (1 + y)) = 0 - (1 + y) := wrap_id (by omega) (by omega)
  have w3 : IntKind.wrap .i64 (255 + (1 + y)) = 255 + (1 + y) := wrap_id (by omega) (by omega)
  have w4 : IntKind.wrap .i64 (3 + (1 + y)) = 3 + (1 + y) := wrap_id (by omega) (by omega)
  simp only [w1, w2, w3, w4]
  have b1 : val8 (0 - (1 + y)) = false := by unfold val8 upto; simp; omega
  have b2 : val8 (255 + (1 + y)) = false := by unfold val8 upto; simp; omega
  have b3 : lab (0 - (1 + y)) = false := by unfold lab upto; simp; omega
  have b4 : lab (3 + (1 + y)) = false := by unfold lab upto; simp; omega
  generalize 0 - (1 + y) = m1 at *
  generalize 255 + (1 + y) = m2 at *
  generalize 3 + (1 + y) = m3 at *
  rcases hg with rfl | rfl | rfl | rfl <;> rcases ho with rfl | rfl <;>
    simp [splice, addN, mulN, isK, isJ, hdI, hdJ, v4, b1, b2, b3, b4, setR_v4, setR_lab, setR_val, addR_v4, addR_lab, addR_lab2]
end Vm
