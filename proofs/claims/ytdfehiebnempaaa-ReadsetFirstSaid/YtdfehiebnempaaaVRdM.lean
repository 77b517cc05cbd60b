/- What the functions of this text do, told by an interpreter that is proved right (YtdfehiebnempaaaVA to VD). My own work. -/
import Derived.Test.YtdfehiebnempaaaVRdJ
import Derived.Test.YtdfehiebnempaaaVD
namespace Vm
open Go Go.Proofs
theorem c11' (x : D) (h : Good (.sl [.int] 8) x) : CT Try.prog 11 [.c x] (B true) := by
  obtain ⟨R, rfl, hR, _⟩ := Good.rows (z := 1) h
  exact c11 [] hR
end Vm
