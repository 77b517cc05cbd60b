/- Proved: InstNames answers true for every two numbers. No condition. -/
import Derived.Test.YtidedfhlocodgaaQInstNamesx5
namespace Go.Proofs.Ytidedfhlocodgaa.Pure
open Go Go.RowKit Go.Proofs.Ytidedfhlocodgaa.PInstNames Go.Proofs.YtidedfhlocodgaaW.PrintWords Go.Proofs.YtidedfhlocodgaaW.PrintLast

-- BEGIN
theorem small_mod (a : Int) (m : Int) (h : 0 < m) (hm : m < 100) : 0 ≤ wrap64 (Int.tmod (IntKind.u64.wrap a) m) ∧ wrap64 (Int.tmod (IntKind.u64.wrap a) m) < m := by
  have h0 : 0 ≤ IntKind.u64.wrap a := by unfold IntKind.wrap; simp [IntKind.signed, IntKind.bits]; omega
  rw [Int.tmod_eq_emod_of_nonneg h0]
  have h1 := Int.emod_nonneg (IntKind.u64.wrap a) (show m ≠ 0 by omega)
  have h2 := Int.emod_lt_of_pos (IntKind.u64.wrap a) h
  unfold wrap64
  omega
theorem InstNames : veillaw7_InstNames.Pure := by
  intro a0 a1 _ _
  refine ⟨30, ?_⟩
  unfold veillaw7_InstNames.f
  have ha : veillaw7_awake.f 30 = some true := by decide +kernel
  simp only [ha, Option.bind_some, if_true]
  have h5 := small_mod a0 7 (by decide) (by decide)
  have h6 := small_mod a1 3 (by decide) (by decide)
  generalize wrap64 (Int.tmod (IntKind.u64.wrap a0) 7) = x at h5 ⊢
  generalize wrap64 (Int.tmod (IntKind.u64.wrap a1) 3) = y at h6 ⊢
  have hx : x = 0 ∨ x = 1 ∨ x = 2 ∨ x = 3 ∨ x = 4 ∨ x = 5 ∨ x = 6 := by omega
  have hy : y = 0 ∨ y = 1 ∨ y = 2 := by omega
  rcases hx with h | h | h | h | h | h | h <;> rcases hy with h' | h' | h' <;> subst h <;> subst h' <;> decide +kernel
end Go.Proofs.Ytidedfhlocodgaa.Pure
