/- What the functions of this text do, told by an interpreter that is proved right (YtdfehiebnempaaaVA to VD). My own work. -/
import Derived.Test.YtdfehiebnempaaaVArI
import Derived.Test.YtdfehiebnempaaaVD
namespace Vm
open Go Go.Proofs
set_option linter.unusedSimpArgs false
set_option linter.unusedVariables false
/-! ### what comes in -/
theorem three_of {n : Nat} {ds : List D} (h : GoodL (List.replicate 3 .int) ds) : ∃ a b c : Int, ds = [vI a, vI b, vI c] := by
  obtain ⟨d0, ds, rfl, h0, h⟩ := h.cons_inv
  obtain ⟨d1, ds, rfl, h1, h⟩ := h.cons_inv
  obtain ⟨d2, ds, rfl, h2, h⟩ := h.cons_inv
  have := h.nil_inv
  subst this
  obtain ⟨a, rfl, _⟩ := h0.int_inv
  obtain ⟨b, rfl, _⟩ := h1.int_inv
  obtain ⟨c, rfl, _⟩ := h2.int_inv
  exact ⟨a, b, c, rfl⟩
theorem arena_of {ds : List D} (h : GoodL [.sl [.int, .int, .int] 24, .sl [.int, .int, .int] 24, .sl [.int, .int, .int] 24, .sl [.int, .int, .int] 24] ds) : ∃ R0 R1 R2 R3 : List (List D), ds = [.s 0 3 R0 [], .s 0 3 R1 [], .s 0 3 R2 [], .s 0 3 R3 []] ∧ okA R0 R1 R2 R3 = true ∧ okC4 R0 R1 R2 R3 = true := by
  obtain ⟨d0, ds, rfl, h0, h⟩ := h.cons_inv
  obtain ⟨d1, ds, rfl, h1, h⟩ := h.cons_inv
  obtain ⟨d2, ds, rfl, h2, h⟩ := h.cons_inv
  obtain ⟨d3, ds, rfl, h3, h⟩ := h.cons_inv
  have := h.nil_inv
  subst this
  obtain ⟨R0, rfl, o0, l0⟩ := Good.rows (z := 3) h0
  obtain ⟨R1, rfl, o1, l1⟩ := Good.rows (z := 3) h1
  obtain ⟨R2, rfl, o2, l2⟩ := Good.rows (z := 3) h2
  obtain ⟨R3, rfl, o3, l3⟩ := Good.rows (z := 3) h3
  have q0 := (decide_eq_true (show R0.length ≤ 5864062014635 by omega))
  have q1 := (decide_eq_true (show R1.length ≤ 5864062014635 by omega))
  have q2 := (decide_eq_true (show R2.length ≤ 5864062014635 by omega))
  have q3 := (decide_eq_true (show R3.length ≤ 5864062014635 by omega))
  exact ⟨R0, R1, R2, R3, rfl, okA_mk o0 o1 o2 o3, by simp only [okC4, okC, allV_ok o0, allV_ok o1, allV_ok o2, allV_ok o3, q0, q1, q2, q3, Bool.and_self]⟩
theorem c4' (ds : List D) (lv num a b c g i : Int) (h : GoodL [.sl [.int, .int, .int] 24, .sl [.int, .int, .int] 24, .sl [.int, .int, .int] 24, .sl [.int, .int, .int] 24] ds) : CT Try.prog 4 [.agg ds, I lv, I num, .agg [vi a, vi b, vi c], I g, I i] (B true) := by
  obtain ⟨R0, R1, R2, R3, rfl, hA, hC⟩ := arena_of h
  exact c4 [] [] [] [] lv num a b c g i hA hC
abbrev kAr : List KT := [.sl [.int, .int, .int] 24, .sl [.int, .int, .int] 24, .sl [.int, .int, .int] 24, .sl [.int, .int, .int] 24]
abbrev kVl : List KT := [.sl [.int] 8, .sl [.int] 8, .sl [.int] 8, .sl [.int] 8]
theorem values_of {ds : List D} (h : GoodL kVl ds) (hs : ShL 1048576 ds) : ∃ R0 R1 R2 R3 : List (List D), ds = [.s 0 1 R0 [], .s 0 1 R1 [], .s 0 1 R2 [], .s 0 1 R3 []] ∧ okV4 R0 R1 R2 R3 = true := by
  obtain ⟨d0, ds, rfl, h0, h⟩ := h.cons_inv
  obtain ⟨d1, ds, rfl, h1, h⟩ := h.cons_inv
  obtain ⟨d2, ds, rfl, h2, h⟩ := h.cons_inv
  obtain ⟨d3, ds, rfl, h3, h⟩ := h.cons_inv
  have := h.nil_inv
  subst this
  obtain ⟨R0, rfl, o0, l0⟩ := Good.rows (z := 1) h0
  obtain ⟨R1, rfl, o1, l1⟩ := Good.rows (z := 1) h1
  obtain ⟨R2, rfl, o2, l2⟩ := Good.rows (z := 1) h2
  obtain ⟨R3, rfl, o3, l3⟩ := Good.rows (z := 1) h3
  have s0 := (hs _ (by simp) : Sh 1048576 (.s 0 1 R0 [])).len
  have s1 := (hs _ (by simp) : Sh 1048576 (.s 0 1 R1 [])).len
  have s2 := (hs _ (by simp) : Sh 1048576 (.s 0 1 R2 [])).len
  have s3 := (hs _ (by simp) : Sh 1048576 (.s 0 1 R3 [])).len
  have q0 := (decide_eq_true (show R0.length ≤ 5864062014635 by omega))
  have q1 := (decide_eq_true (show R1.length ≤ 5864062014635 by omega))
  have q2 := (decide_eq_true (show R2.length ≤ 5864062014635 by omega))
  have q3 := (decide_eq_true (show R3.length ≤ 5864062014635 by omega))
  exact ⟨R0, R1, R2, R3, rfl, by simp only [okV4, okV, o0, o1, o2, o3, q0, q1, q2, q3, Bool.and_self]⟩
theorem c6' (ds : List D) (h : GoodL kVl ds ∧ ShL 1048576 ds) : CT Try.prog 6 [.agg ds] (B true) := by
  obtain ⟨R0, R1, R2, R3, rfl, hV⟩ := values_of h.1 h.2
  exact c6 [] [] [] [] hV
theorem c3' (ds es : List D) (lv num a b c : Int) (h : GoodL kAr ds ∧ ShL 1048576 ds) (h' : GoodL kVl es ∧ ShL 1048576 es) : CT Try.prog 3 [.agg ds, .agg es, I lv, I num, .agg [vi a, vi b, vi c]] (B true) := by
  obtain ⟨R0, R1, R2, R3, rfl, hA, hC⟩ := arena_of h.1
  obtain ⟨V0, V1, V2, V3, rfl, hV⟩ := values_of h'.1 h'.2
  exact c3 [] [] [] [] [] [] [] [] lv num a b c hA hC hV
end Vm
