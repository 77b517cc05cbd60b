/- What the functions of this text do, told by an interpreter that is proved right (YtdfehiebnempaaaVA to VD). My own work. -/
import Derived.Test.YtdfehiebnempaaaVArJ
import Derived.Test.YtdfehiebnempaaaVD
namespace Vm
open Go Go.Proofs
theorem c7' (x : D) (h : Good (.sl [.int] 8) x) : CT Try.prog 7 [.c x] (B true) := by
  obtain ⟨R, rfl, hR, _⟩ := Good.rows (z := 1) h
  exact c7 [] hR
end Vm
