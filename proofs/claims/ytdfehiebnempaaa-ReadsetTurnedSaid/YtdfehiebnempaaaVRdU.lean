/- What the functions of this text do, told by an interpreter that is proved right (YtdfehiebnempaaaVA to VD). My own work. -/
import Derived.Test.YtdfehiebnempaaaVRdT0
import Derived.Test.YtdfehiebnempaaaVRdT1
import Derived.Test.YtdfehiebnempaaaVRdT2
import Derived.Test.YtdfehiebnempaaaVRdT3
import Derived.Test.YtdfehiebnempaaaVRdT4
import Derived.Test.YtdfehiebnempaaaVRdT5
import Derived.Test.YtdfehiebnempaaaVRdT6
import Derived.Test.YtdfehiebnempaaaVRdT7
import Derived.Test.YtdfehiebnempaaaVD
namespace Vm
open Go Go.Proofs
theorem c12 {R : List (List D)} (sp : List (List D)) (at' id : Int) (lk : Bool) (hR : okZ 1 R = true) : CT Try.prog 12 [dS 1 R sp, I at', I id, B lk] (B true) := by
  have hb := mask4 at'
  have hk : band at' 15 = 0 ∨ band at' 15 = 1 ∨ band at' 15 = 2 ∨ band at' 15 = 3 ∨ band at' 15 = 4 ∨ band at' 15 = 5 ∨ band at' 15 = 6 ∨ band at' 15 = 7 ∨ band at' 15 = 8 ∨ band at' 15 = 9 ∨ band at' 15 = 10 ∨ band at' 15 = 11 ∨ band at' 15 = 12 ∨ band at' 15 = 13 ∨ band at' 15 = 14 ∨ band at' 15 = 15 := by omega
  cases lk with
  | false =>
    rcases hk with h | h | h | h | h | h | h | h | h | h | h | h | h | h | h | h
    · exact c12_0f sp at' id hR h
    · exact c12_1f sp at' id hR h
    · exact c12_2f sp at' id hR h
    · exact c12_3f sp at' id hR h
    · exact c12_4f sp at' id hR h
    · exact c12_5f sp at' id hR h
    · exact c12_6f sp at' id hR h
    · exact c12_7f sp at' id hR h
    · exact c12_8f sp at' id hR h
    · exact c12_9f sp at' id hR h
    · exact c12_10f sp at' id hR h
    · exact c12_11f sp at' id hR h
    · exact c12_12f sp at' id hR h
    · exact c12_13f sp at' id hR h
    · exact c12_14f sp at' id hR h
    · exact c12_15f sp at' id hR h
  | true =>
    rcases hk with h | h | h | h | h | h | h | h | h | h | h | h | h | h | h | h
    · exact c12_0t sp at' id hR h
    · exact c12_1t sp at' id hR h
    · exact c12_2t sp at' id hR h
    · exact c12_3t sp at' id hR h
    · exact c12_4t sp at' id hR h
    · exact c12_5t sp at' id hR h
    · exact c12_6t sp at' id hR h
    · exact c12_7t sp at' id hR h
    · exact c12_8t sp at' id hR h
    · exact c12_9t sp at' id hR h
    · exact c12_10t sp at' id hR h
    · exact c12_11t sp at' id hR h
    · exact c12_12t sp at' id hR h
    · exact c12_13t sp at' id hR h
    · exact c12_14t sp at' id hR h
    · exact c12_15t sp at' id hR h
theorem c12' (x : D) (at' id : Int) (lk : Bool) (h : Good (.sl [.int] 8) x) : CT Try.prog 12 [.c x, I at', I id, B lk] (B true) := by
  obtain ⟨R, rfl, hR, _⟩ := Good.rows (z := 1) h
  exact c12 [] at' id lk hR
end Vm
