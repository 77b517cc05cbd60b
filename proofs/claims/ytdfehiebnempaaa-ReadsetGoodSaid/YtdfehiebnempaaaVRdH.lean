/- What the functions of this text do, told by an interpreter that is proved right (YtdfehiebnempaaaVA to VD). My own work. -/
import Derived.Test.YtdfehiebnempaaaVRdF
import Derived.Test.YtdfehiebnempaaaVArK
namespace Vm
open Go Go.Proofs
/-! ### the laws of readset, with what comes in -/
abbrev kRd : KT := .sl [.int, .int, .int] 24
theorem c8' (x : D) (a b c : Int) (ds : List D) (id : Int) (hx : Good kRd x) (h : GoodL kAr ds) : CT Try.prog 8 [.c x, .agg [vi a, vi b, vi c], .agg ds, I id] (B true) := by
  obtain ⟨R, rfl, hR, hl⟩ := Good.rows (z := 3) hx
  obtain ⟨R0, R1, R2, R3, rfl, hA, hC⟩ := arena_of h
  exact c8 [] [] [] [] [] a b c id hA hC hR (by omega)
theorem c9' (x : D) (a b c : Int) (ds : List D) (id : Int) (hx : Good kRd x) (h : GoodL kAr ds) : CT Try.prog 9 [.c x, .agg [vi a, vi b, vi c], .agg ds, I id] (B true) := by
  obtain ⟨R, rfl, hR, hl⟩ := Good.rows (z := 3) hx
  obtain ⟨R0, R1, R2, R3, rfl, hA, hC⟩ := arena_of h
  exact c9 [] [] [] [] [] a b c id hA hR
theorem c13' (ds : List D) (x : D) (id ct : Int) (h : GoodL kAr ds) (hx : Good kRd x) : CT Try.prog 13 [.agg ds, .c x, I id, I ct] (B true) := by
  obtain ⟨R, rfl, hR, hl⟩ := Good.rows (z := 3) hx
  obtain ⟨R0, R1, R2, R3, rfl, hA, hC⟩ := arena_of h
  exact c13 [] [] [] [] [] id ct hA hR (by omega)
end Vm
