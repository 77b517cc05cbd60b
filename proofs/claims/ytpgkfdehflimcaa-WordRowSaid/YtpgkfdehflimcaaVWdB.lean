/- What the functions of this text do, told by an interpreter that is proved right (YtpgkfdehflimcaaVA to VD). My own work. -/
import Derived.Test.YtpgkfdehflimcaaVWd
namespace Vm
open Go Go.Proofs
set_option linter.unusedSimpArgs false
set_option linter.unusedVariables false
theorem lockW_bad {v c l i : Int} (h : wmay v c l = false) : lockW v c l i = ⟨0, 0, 0, 300⟩ := by simp [lockW, h]
theorem lockW_id {v c l i : Int} (h : idm i = false) : lockW v c l i = ⟨0, 0, 0, 300⟩ := by simp [lockW, h]
theorem freeW_bad {v c l : Int} (h : wmay v c l = false) : freeW v c l = ⟨0, 0, 0, 300⟩ := by simp [freeW, h]
theorem writeW_bad {v c l x y : Int} (h : wmay v c l = false) : writeW v c l x y = ⟨0, 0, 0, 300⟩ := by simp [writeW, h]
theorem writeW_bad2 {v c l x y : Int} (h : wmay x y 0 = false) : writeW v c l x y = ⟨0, 0, 0, 300⟩ := by simp [writeW, h]
theorem six (which : Int) (n : Int) (hn : 0 < n) (hn2 : n < 1000) : 0 ≤ IntKind.wrap .i64 (Int.tmod (IntKind.wrap .u64 which) n) ∧ IntKind.wrap .i64 (Int.tmod (IntKind.wrap .u64 which) n) < n := by
  have h0 : 0 ≤ IntKind.wrap .u64 which := by
    simp [IntKind.wrap, IntKind.signed, IntKind.bits]; omega
  generalize IntKind.wrap .u64 which = u at *
  have h1 : 0 ≤ Int.tmod u n := Int.tmod_nonneg _ h0
  have h2 : Int.tmod u n < n := Int.tmod_lt_of_pos _ hn
  rw [wrap_id (by omega) (by omega)]
  exact ⟨h1, h2⟩
theorem c13 (which x : Int) : CT Try.prog 13 [I which, I x] (B true) := by
  refine ct_askL (l := [(30, s30), (32, s32), (34, s34), (23, sI), (36, s36), (38, sT)]) (m := []) (.cons o30 (.cons o32 (.cons o34 (.cons o23 (.cons o36 (.cons o38 .nil)))))) mixed (loops_nil rfl) Try.func13 rfl rfl rfl ?_
  show askA band bor Try.prog _ _ Try.f13 _ _
  rw [e13]
  have ho : band which 1 = 0 ∨ band which 1 = 1 := by rw [mask1]; omega
  have hi := six which 6 (by decide) (by decide)
  have hy0 : 0 ≤ band x 1023 := by rw [mask10]; omega
  have hy1 : band x 1023 ≤ 1023 := by rw [mask10]; omega
  generalize band x 1023 = y at *
  generalize band which 1 = o at *
  generalize IntKind.wrap .i64 (Int.tmod (IntKind.wrap .u64 which) 6) = i at *
  have hi' : i = 0 ∨ i = 1 ∨ i = 2 ∨ i = 3 ∨ i = 4 ∨ i = 5 := by omega
  clear hi
  have w1 : IntKind.wrap .i64 (1 + y) = 1 + y := wrap_id (by omega) (by omega)
  have w2 : IntKind.wrap .i64 (0 - (1 + y)) = 0 - (1 + y) := wrap_id (by omega) (by omega)
  have w3 : IntKind.wrap .i64 (65535 + (1 + y)) = 65535 + (1 + y) := wrap_id (by omega) (by omega)
  have w4 : IntKind.wrap .i64 (255 + (1 + y)) = 255 + (1 + y) := wrap_id (by omega) (by omega)
  have w5 : IntKind.wrap .i64 (254 + (1 + y)) = 254 + (1 + y) := wrap_id (by omega) (by omega)
  simp only [w1, w2, w3, w4, w5]
  have a1 : val8 (0 - (1 + y)) = false := by unfold val8 upto; simp; omega
  have a2 : val8 (255 + (1 + y)) = false := by unfold val8 upto; simp; omega
  have a3 : clk (0 - (1 + y)) = false := by unfold clk upto; simp; omega
  have a4 : clk (65535 + (1 + y)) = false := by unfold clk upto; simp; omega
  have a5 : upto (0 - (1 + y)) 0 255 = false := by unfold upto; simp; omega
  have a6 : upto (255 + (1 + y)) 0 255 = false := by unfold upto; simp; omega
  have a7 : idm (0 - (1 + y)) = false := by unfold idm upto; simp; omega
  have a8 : idm (254 + (1 + y)) = false := by unfold idm upto; simp; omega
  generalize 0 - (1 + y) = m1 at *
  generalize 255 + (1 + y) = m2 at *
  generalize 65535 + (1 + y) = m3 at *
  generalize 254 + (1 + y) = m4 at *
  have g1 : wmay 3 0 0 = true := rfl
  have r1 : ∀ z, wmay m1 z 0 = false := fun z => by simp [wmay, a1]
  have r2 : ∀ z, wmay m2 z 0 = false := fun z => by simp [wmay, a2]
  have r3 : ∀ z, wmay z m1 0 = false := fun z => by simp [wmay, a3]
  have r4 : ∀ z, wmay z m3 0 = false := fun z => by simp [wmay, a4]
  have r5 : ∀ z, wmay z 0 m1 = false := fun z => by simp [wmay, a5]
  have r6 : ∀ z, wmay z 0 m2 = false := fun z => by simp [wmay, a6]
  rcases hi' with rfl | rfl | rfl | rfl | rfl | rfl <;> rcases ho with rfl | rfl <;>
    simp [addN, isJ, hdJ, r1, r2, r3, r4, r5, r6, g1, a7, a8, lockW_bad, lockW_id, freeW_bad, writeW_bad, writeW_bad2]
end Vm
