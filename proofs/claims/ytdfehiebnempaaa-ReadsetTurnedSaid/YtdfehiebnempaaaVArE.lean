/- What the functions of this text do, told by an interpreter that is proved right (YtdfehiebnempaaaVA to VD). My own work. -/
import Derived.Test.YtdfehiebnempaaaVArD
import Derived.Test.YtdfehiebnempaaaVD
namespace Vm
open Go Go.Proofs
set_option linter.unusedSimpArgs false
set_option linter.unusedVariables false
set_option maxRecDepth 100000
/-! ### new arenas -/
def mL (l : List (List Int)) : List (List Int) := l.map fun r => [r.getD 0 0, 0, 0]
def mW (R : List (List D)) : List (List D) := mZ (mL (toZ R))
abbrev dV (R0 p0 R1 p1 R2 p2 R3 p3 : List (List D)) : DV := .agg [.s 0 1 R0 p0, .s 0 1 R1 p1, .s 0 1 R2 p2, .s 0 1 R3 p3]
def boxL (y : X) (k j : Nat) : Nat := match (rowOf y k).getD j .non with | .rs _ _ _ _ len _ => len | _ => 0
def stP0 (R0 p0 R1 p1 R2 p2 R3 p3 : List (List D)) (i : Int) : X := ⟨mkT 36 [(2, .c (.rp 3 0 4 0 0)), (3, ai 0), (4, .c (.rp 5 0 4 0 0)), (5, ai 0), (9, .agg [.d (.s 0 1 R0 p0), .d (.s 0 1 R1 p1), .d (.s 0 1 R2 p2), .d (.s 0 1 R3 p3)]), (10, ai 0), (14, aS 1 R0 p0), (15, ai R0.length), (16, ai i)], [(3, .bx 0 4 [.d nilD, .d nilD, .d nilD, .d nilD]), (5, .bx 0 4 [.d nilD, .d nilD, .d nilD, .d nilD])], []⟩
def stN0 (R0 p0 R1 p1 R2 p2 R3 p3 : List (List D)) (W : List (List D)) (m : Nat) (i : Int) : X := ⟨mkT 36 [(2, .c (.rp 3 0 4 0 0)), (3, ai 0), (4, .c (.rp 5 0 4 0 0)), (5, ai 0), (9, .agg [.d (.s 0 1 R0 p0), .d (.s 0 1 R1 p1), .d (.s 0 1 R2 p2), .d (.s 0 1 R3 p3)]), (10, ai 0), (14, aS 1 R0 p0), (15, ai R0.length), (16, ai i)], [(3, .bx 0 4 [.d nilD, .d nilD, .d nilD, .d nilD]), (5, .bx 0 4 [.rs 2000000 0 3 0 m m, .d nilD, .d nilD, .d nilD]), (2000000, .sl 0 3 W)], []⟩
def vN0 (R0 p0 R1 p1 R2 p2 R3 p3 : List (List D)) (y : X) : X := stN0 R0 p0 R1 p1 R2 p2 R3 p3 (rowsL y 2000000) (boxL y 5 0) (slotI y 16)
theorem eN0r (R0 p0 R1 p1 R2 p2 R3 p3 : List (List D)) (W : List (List D)) (m : Nat) (i : Int) (N : X → Prop) (E : Exit → X → Prop) : (roundA band bor Try.prog [] [] Try.f20 1 [2, 3, 4, 5, 9, 10, 14, 15, 16] [3, 5, 2000000] (vN0 R0 p0 R1 p1 R2 p2 R3 p3) (vN0 R0 p0 R1 p1 R2 p2 R3 p3) N E (stN0 R0 p0 R1 p1 R2 p2 R3 p3 W m i)) = (bif decide (i < @Nat.cast Int _ (List.length R0)) then bif decide (0 ≤ i) && decide (i < @Nat.cast Int _ (List.length R0)) then bif isJ [IntKind.i64] (List.drop (0) (List.getD R0 (Int.toNat i) [])) then bif decide (m ≤ List.length W) && (decide ((m + 1) * 24 ≤ 140737488355328) && decide (m + 1 ≤ 9223372036854775807)) then stN0 R0 p0 R1 p1 R2 p2 R3 p3 (List.take m W ++ [[D.v (Value.int IntKind.i64 (hdJ (List.drop (0) (List.getD R0 (Int.toNat i) [])))), D.v (Value.int IntKind.i64 (0)), D.v (Value.int IntKind.i64 (0))]]) (Nat.succ m) (IntKind.wrap IntKind.i64 (i + 1)) = stN0 R0 p0 R1 p1 R2 p2 R3 p3 (List.take m W ++ [[D.v (Value.int IntKind.i64 (hdJ (List.drop (0) (List.getD R0 (Int.toNat i) [])))), D.v (Value.int IntKind.i64 (0)), D.v (Value.int IntKind.i64 (0))]]) (Nat.succ m) (IntKind.wrap IntKind.i64 (i + 1)) ∧ N (stN0 R0 p0 R1 p1 R2 p2 R3 p3 (List.take m W ++ [[D.v (Value.int IntKind.i64 (hdJ (List.drop (0) (List.getD R0 (Int.toNat i) [])))), D.v (Value.int IntKind.i64 (0)), D.v (Value.int IntKind.i64 (0))]]) (Nat.succ m) (IntKind.wrap IntKind.i64 (i + 1))) else False else False else False else stN0 R0 p0 R1 p1 R2 p2 R3 p3 W m i = stN0 R0 p0 R1 p1 R2 p2 R3 p3 W m i ∧ E (Exit.exit (2)) (stN0 R0 p0 R1 p1 R2 p2 R3 p3 W m i)) := by kernel_rfl
def sN0 (R0 p0 R1 p1 R2 p2 R3 p3 : List (List D)) : LSum := fun Q x => x.only [2, 3, 4, 5, 9, 10, 14, 15, 16] [3, 5, 2000000] = stP0 R0 p0 R1 p1 R2 p2 R3 p3 0 ∧ Q (.exit 2) (stN0 R0 p0 R1 p1 R2 p2 R3 p3 (mW R0) R0.length R0.length)
def stQ0 (R0 p0 R1 p1 R2 p2 R3 p3 : List (List D)) (e i : Int) : X := ⟨mkT 47 [(1, .c (.rp 2 0 4 0 0)), (2, .c (.rp 3 0 4 0 0)), (3, ai e), (4, .c (.rp 5 0 4 0 0)), (5, ai 0), (6, ai i)], [(2, .bx 0 4 [.d (.s 0 1 R0 p0), .d (.s 0 1 R1 p1), .d (.s 0 1 R2 p2), .d (.s 0 1 R3 p3)]), (3, .bx 0 4 [.d nilD, .d nilD, .d nilD, .d nilD]), (5, .bx 0 4 [.d nilD, .d nilD, .d nilD, .d nilD])], []⟩
def stM0 (R0 p0 R1 p1 R2 p2 R3 p3 : List (List D)) (W : List (List D)) (m : Nat) (e i : Int) : X := ⟨mkT 47 [(1, .c (.rp 2 0 4 0 0)), (2, .c (.rp 3 0 4 0 0)), (3, ai e), (4, .c (.rp 5 0 4 0 0)), (5, ai 0), (6, ai i)], [(2, .bx 0 4 [.d (.s 0 1 R0 p0), .d (.s 0 1 R1 p1), .d (.s 0 1 R2 p2), .d (.s 0 1 R3 p3)]), (3, .bx 0 4 [.d nilD, .d nilD, .d nilD, .d nilD]), (5, .bx 0 4 [.rs 2000000 0 3 0 m m, .d nilD, .d nilD, .d nilD]), (2000000, .sl 0 3 W)], []⟩
def vM0 (R0 p0 R1 p1 R2 p2 R3 p3 : List (List D)) (y : X) : X := stM0 R0 p0 R1 p1 R2 p2 R3 p3 (rowsL y 2000000) (boxL y 5 0) (slotI y 3) (slotI y 6)
theorem eM0r (R0 p0 R1 p1 R2 p2 R3 p3 : List (List D)) (W : List (List D)) (m : Nat) (e i : Int) (N : X → Prop) (E : Exit → X → Prop) : (roundA band bor Try.prog [(58, sB val8)] [] Try.f21 1 [1, 2, 3, 4, 5, 6] [2, 3, 5, 2000000] (vM0 R0 p0 R1 p1 R2 p2 R3 p3) (vM0 R0 p0 R1 p1 R2 p2 R3 p3) N E (stM0 R0 p0 R1 p1 R2 p2 R3 p3 W m e i)) = (bif decide (i < @Nat.cast Int _ (List.length R0)) then bif decide (i ≥ 4) then stM0 R0 p0 R1 p1 R2 p2 R3 p3 W m (400) i = stM0 R0 p0 R1 p1 R2 p2 R3 p3 W m (400) i ∧ E Exit.ret (stM0 R0 p0 R1 p1 R2 p2 R3 p3 W m (400) i) else bif decide (0 ≤ i) && decide (i < @Nat.cast Int _ (List.length R0)) then bif isJ [IntKind.i64] (List.drop (0) (List.getD R0 (Int.toNat i) [])) then bif !(decide (hdJ (List.drop (0) (List.getD R0 (Int.toNat i) [])) ≥ 0) && decide (hdJ (List.drop (0) (List.getD R0 (Int.toNat i) [])) ≤ 255)) then stM0 R0 p0 R1 p1 R2 p2 R3 p3 W m (400) i = stM0 R0 p0 R1 p1 R2 p2 R3 p3 W m (400) i ∧ E Exit.ret (stM0 R0 p0 R1 p1 R2 p2 R3 p3 W m (400) i) else bif decide (0 ≤ i) && decide (i < @Nat.cast Int _ (List.length R0)) then bif isJ [IntKind.i64] (List.drop (0) (List.getD R0 (Int.toNat i) [])) then bif decide (m ≤ List.length W) && (decide ((m + 1) * 24 ≤ 140737488355328) && decide (m + 1 ≤ 9223372036854775807)) then stM0 R0 p0 R1 p1 R2 p2 R3 p3 (List.take m W ++ [[D.v (Value.int IntKind.i64 (hdJ (List.drop (0) (List.getD R0 (Int.toNat i) [])))), D.v (Value.int IntKind.i64 (0)), D.v (Value.int IntKind.i64 (0))]]) (Nat.succ m) e (IntKind.wrap IntKind.i64 (i + 1)) = stM0 R0 p0 R1 p1 R2 p2 R3 p3 (List.take m W ++ [[D.v (Value.int IntKind.i64 (hdJ (List.drop (0) (List.getD R0 (Int.toNat i) [])))), D.v (Value.int IntKind.i64 (0)), D.v (Value.int IntKind.i64 (0))]]) (Nat.succ m) e (IntKind.wrap IntKind.i64 (i + 1)) ∧ N (stM0 R0 p0 R1 p1 R2 p2 R3 p3 (List.take m W ++ [[D.v (Value.int IntKind.i64 (hdJ (List.drop (0) (List.getD R0 (Int.toNat i) [])))), D.v (Value.int IntKind.i64 (0)), D.v (Value.int IntKind.i64 (0))]]) (Nat.succ m) e (IntKind.wrap IntKind.i64 (i + 1))) else False else False else False else False else False else stM0 R0 p0 R1 p1 R2 p2 R3 p3 W m e i = stM0 R0 p0 R1 p1 R2 p2 R3 p3 W m e i ∧ E (Exit.exit (2)) (stM0 R0 p0 R1 p1 R2 p2 R3 p3 W m e i)) := by kernel_rfl
def sM0 (R0 p0 R1 p1 R2 p2 R3 p3 : List (List D)) : LSum := fun Q x => x.only [1, 2, 3, 4, 5, 6] [2, 3, 5, 2000000] = stQ0 R0 p0 R1 p1 R2 p2 R3 p3 0 0 ∧ (rowMay (toZ (mW R0)) = false → ∀ (W : List (List D)) (m : Nat) (i : Int), Q .ret (stM0 R0 p0 R1 p1 R2 p2 R3 p3 W m 400 i)) ∧ (rowMay (toZ (mW R0)) = true → Q (.exit 2) (stM0 R0 p0 R1 p1 R2 p2 R3 p3 (mW R0) R0.length 0 R0.length))
def stP1 (R0 p0 R1 p1 R2 p2 R3 p3 : List (List D)) (i : Int) : X := ⟨mkT 36 [(2, .c (.rp 3 0 4 0 0)), (3, ai 0), (4, .c (.rp 5 0 4 0 0)), (5, ai 1), (9, .agg [.d (.s 0 1 R0 p0), .d (.s 0 1 R1 p1), .d (.s 0 1 R2 p2), .d (.s 0 1 R3 p3)]), (10, ai 1), (14, aS 1 R1 p1), (15, ai R1.length), (16, ai i)], [(3, .bx 0 4 [.d nilD, .d nilD, .d nilD, .d nilD]), (5, .bx 0 4 [.rs 2000000 0 3 0 R0.length R0.length, .d nilD, .d nilD, .d nilD]), (2000000, .sl 0 3 (mW R0))], []⟩
def stN1 (R0 p0 R1 p1 R2 p2 R3 p3 : List (List D)) (W : List (List D)) (m : Nat) (i : Int) : X := ⟨mkT 36 [(2, .c (.rp 3 0 4 0 0)), (3, ai 0), (4, .c (.rp 5 0 4 0 0)), (5, ai 1), (9, .agg [.d (.s 0 1 R0 p0), .d (.s 0 1 R1 p1), .d (.s 0 1 R2 p2), .d (.s 0 1 R3 p3)]), (10, ai 1), (14, aS 1 R1 p1), (15, ai R1.length), (16, ai i)], [(3, .bx 0 4 [.d nilD, .d nilD, .d nilD, .d nilD]), (5, .bx 0 4 [.rs 2000000 0 3 0 R0.length R0.length, .rs 2000001 0 3 0 m m, .d nilD, .d nilD]), (2000000, .sl 0 3 (mW R0)), (2000001, .sl 0 3 W)], []⟩
def vN1 (R0 p0 R1 p1 R2 p2 R3 p3 : List (List D)) (y : X) : X := stN1 R0 p0 R1 p1 R2 p2 R3 p3 (rowsL y 2000001) (boxL y 5 1) (slotI y 16)
theorem eN1r (R0 p0 R1 p1 R2 p2 R3 p3 : List (List D)) (W : List (List D)) (m : Nat) (i : Int) (N : X → Prop) (E : Exit → X → Prop) : (roundA band bor Try.prog [] [] Try.f20 1 [2, 3, 4, 5, 9, 10, 14, 15, 16] [3, 5, 2000000, 2000001] (vN1 R0 p0 R1 p1 R2 p2 R3 p3) (vN1 R0 p0 R1 p1 R2 p2 R3 p3) N E (stN1 R0 p0 R1 p1 R2 p2 R3 p3 W m i)) = (bif decide (i < @Nat.cast Int _ (List.length R1)) then bif decide (0 ≤ i) && decide (i < @Nat.cast Int _ (List.length R1)) then bif isJ [IntKind.i64] (List.drop (0) (List.getD R1 (Int.toNat i) [])) then bif decide (m ≤ List.length W) && (decide ((m + 1) * 24 ≤ 140737488355328) && decide (m + 1 ≤ 9223372036854775807)) then stN1 R0 p0 R1 p1 R2 p2 R3 p3 (List.take m W ++ [[D.v (Value.int IntKind.i64 (hdJ (List.drop (0) (List.getD R1 (Int.toNat i) [])))), D.v (Value.int IntKind.i64 (0)), D.v (Value.int IntKind.i64 (0))]]) (Nat.succ m) (IntKind.wrap IntKind.i64 (i + 1)) = stN1 R0 p0 R1 p1 R2 p2 R3 p3 (List.take m W ++ [[D.v (Value.int IntKind.i64 (hdJ (List.drop (0) (List.getD R1 (Int.toNat i) [])))), D.v (Value.int IntKind.i64 (0)), D.v (Value.int IntKind.i64 (0))]]) (Nat.succ m) (IntKind.wrap IntKind.i64 (i + 1)) ∧ N (stN1 R0 p0 R1 p1 R2 p2 R3 p3 (List.take m W ++ [[D.v (Value.int IntKind.i64 (hdJ (List.drop (0) (List.getD R1 (Int.toNat i) [])))), D.v (Value.int IntKind.i64 (0)), D.v (Value.int IntKind.i64 (0))]]) (Nat.succ m) (IntKind.wrap IntKind.i64 (i + 1))) else False else False else False else stN1 R0 p0 R1 p1 R2 p2 R3 p3 W m i = stN1 R0 p0 R1 p1 R2 p2 R3 p3 W m i ∧ E (Exit.exit (2)) (stN1 R0 p0 R1 p1 R2 p2 R3 p3 W m i)) := by kernel_rfl
def sN1 (R0 p0 R1 p1 R2 p2 R3 p3 : List (List D)) : LSum := fun Q x => x.only [2, 3, 4, 5, 9, 10, 14, 15, 16] [3, 5, 2000000, 2000001] = stP1 R0 p0 R1 p1 R2 p2 R3 p3 0 ∧ Q (.exit 2) (stN1 R0 p0 R1 p1 R2 p2 R3 p3 (mW R1) R1.length R1.length)
def stQ1 (R0 p0 R1 p1 R2 p2 R3 p3 : List (List D)) (e i : Int) : X := ⟨mkT 47 [(1, .c (.rp 2 0 4 0 0)), (2, .c (.rp 3 0 4 0 0)), (3, ai e), (4, .c (.rp 5 0 4 0 0)), (5, ai 1), (6, ai i)], [(2, .bx 0 4 [.d (.s 0 1 R0 p0), .d (.s 0 1 R1 p1), .d (.s 0 1 R2 p2), .d (.s 0 1 R3 p3)]), (3, .bx 0 4 [.d nilD, .d nilD, .d nilD, .d nilD]), (5, .bx 0 4 [.rs 2000000 0 3 0 R0.length R0.length, .d nilD, .d nilD, .d nilD]), (2000000, .sl 0 3 (mW R0))], []⟩
def stM1 (R0 p0 R1 p1 R2 p2 R3 p3 : List (List D)) (W : List (List D)) (m : Nat) (e i : Int) : X := ⟨mkT 47 [(1, .c (.rp 2 0 4 0 0)), (2, .c (.rp 3 0 4 0 0)), (3, ai e), (4, .c (.rp 5 0 4 0 0)), (5, ai 1), (6, ai i)], [(2, .bx 0 4 [.d (.s 0 1 R0 p0), .d (.s 0 1 R1 p1), .d (.s 0 1 R2 p2), .d (.s 0 1 R3 p3)]), (3, .bx 0 4 [.d nilD, .d nilD, .d nilD, .d nilD]), (5, .bx 0 4 [.rs 2000000 0 3 0 R0.length R0.length, .rs 2000001 0 3 0 m m, .d nilD, .d nilD]), (2000000, .sl 0 3 (mW R0)), (2000001, .sl 0 3 W)], []⟩
def vM1 (R0 p0 R1 p1 R2 p2 R3 p3 : List (List D)) (y : X) : X := stM1 R0 p0 R1 p1 R2 p2 R3 p3 (rowsL y 2000001) (boxL y 5 1) (slotI y 3) (slotI y 6)
theorem eM1r (R0 p0 R1 p1 R2 p2 R3 p3 : List (List D)) (W : List (List D)) (m : Nat) (e i : Int) (N : X → Prop) (E : Exit → X → Prop) : (roundA band bor Try.prog [(58, sB val8)] [] Try.f21 1 [1, 2, 3, 4, 5, 6] [2, 3, 5, 2000000, 2000001] (vM1 R0 p0 R1 p1 R2 p2 R3 p3) (vM1 R0 p0 R1 p1 R2 p2 R3 p3) N E (stM1 R0 p0 R1 p1 R2 p2 R3 p3 W m e i)) = (bif decide (i < @Nat.cast Int _ (List.length R1)) then bif decide (i ≥ 4) then stM1 R0 p0 R1 p1 R2 p2 R3 p3 W m (400) i = stM1 R0 p0 R1 p1 R2 p2 R3 p3 W m (400) i ∧ E Exit.ret (stM1 R0 p0 R1 p1 R2 p2 R3 p3 W m (400) i) else bif decide (0 ≤ i) && decide (i < @Nat.cast Int _ (List.length R1)) then bif isJ [IntKind.i64] (List.drop (0) (List.getD R1 (Int.toNat i) [])) then bif !(decide (hdJ (List.drop (0) (List.getD R1 (Int.toNat i) [])) ≥ 0) && decide (hdJ (List.drop (0) (List.getD R1 (Int.toNat i) [])) ≤ 255)) then stM1 R0 p0 R1 p1 R2 p2 R3 p3 W m (400) i = stM1 R0 p0 R1 p1 R2 p2 R3 p3 W m (400) i ∧ E Exit.ret (stM1 R0 p0 R1 p1 R2 p2 R3 p3 W m (400) i) else bif decide (0 ≤ i) && decide (i < @Nat.cast Int _ (List.length R1)) then bif isJ [IntKind.i64] (List.drop (0) (List.getD R1 (Int.toNat i) [])) then bif decide (m ≤ List.length W) && (decide ((m + 1) * 24 ≤ 140737488355328) && decide (m + 1 ≤ 9223372036854775807)) then stM1 R0 p0 R1 p1 R2 p2 R3 p3 (List.take m W ++ [[D.v (Value.int IntKind.i64 (hdJ (List.drop (0) (List.getD R1 (Int.toNat i) [])))), D.v (Value.int IntKind.i64 (0)), D.v (Value.int IntKind.i64 (0))]]) (Nat.succ m) e (IntKind.wrap IntKind.i64 (i + 1)) = stM1 R0 p0 R1 p1 R2 p2 R3 p3 (List.take m W ++ [[D.v (Value.int IntKind.i64 (hdJ (List.drop (0) (List.getD R1 (Int.toNat i) [])))), D.v (Value.int IntKind.i64 (0)), D.v (Value.int IntKind.i64 (0))]]) (Nat.succ m) e (IntKind.wrap IntKind.i64 (i + 1)) ∧ N (stM1 R0 p0 R1 p1 R2 p2 R3 p3 (List.take m W ++ [[D.v (Value.int IntKind.i64 (hdJ (List.drop (0) (List.getD R1 (Int.toNat i) [])))), D.v (Value.int IntKind.i64 (0)), D.v (Value.int IntKind.i64 (0))]]) (Nat.succ m) e (IntKind.wrap IntKind.i64 (i + 1))) else False else False else False else False else False else stM1 R0 p0 R1 p1 R2 p2 R3 p3 W m e i = stM1 R0 p0 R1 p1 R2 p2 R3 p3 W m e i ∧ E (Exit.exit (2)) (stM1 R0 p0 R1 p1 R2 p2 R3 p3 W m e i)) := by kernel_rfl
def sM1 (R0 p0 R1 p1 R2 p2 R3 p3 : List (List D)) : LSum := fun Q x => x.only [1, 2, 3, 4, 5, 6] [2, 3, 5, 2000000, 2000001] = stQ1 R0 p0 R1 p1 R2 p2 R3 p3 0 0 ∧ (rowMay (toZ (mW R1)) = false → ∀ (W : List (List D)) (m : Nat) (i : Int), Q .ret (stM1 R0 p0 R1 p1 R2 p2 R3 p3 W m 400 i)) ∧ (rowMay (toZ (mW R1)) = true → Q (.exit 2) (stM1 R0 p0 R1 p1 R2 p2 R3 p3 (mW R1) R1.length 0 R1.length))
def stP2 (R0 p0 R1 p1 R2 p2 R3 p3 : List (List D)) (i : Int) : X := ⟨mkT 36 [(2, .c (.rp 3 0 4 0 0)), (3, ai 0), (4, .c (.rp 5 0 4 0 0)), (5, ai 2), (9, .agg [.d (.s 0 1 R0 p0), .d (.s 0 1 R1 p1), .d (.s 0 1 R2 p2), .d (.s 0 1 R3 p3)]), (10, ai 2), (14, aS 1 R2 p2), (15, ai R2.length), (16, ai i)], [(3, .bx 0 4 [.d nilD, .d nilD, .d nilD, .d nilD]), (5, .bx 0 4 [.rs 2000000 0 3 0 R0.length R0.length, .rs 2000001 0 3 0 R1.length R1.length, .d nilD, .d nilD]), (2000000, .sl 0 3 (mW R0)), (2000001, .sl 0 3 (mW R1))], []⟩
def stN2 (R0 p0 R1 p1 R2 p2 R3 p3 : List (List D)) (W : List (List D)) (m : Nat) (i : Int) : X := ⟨mkT 36 [(2, .c (.rp 3 0 4 0 0)), (3, ai 0), (4, .c (.rp 5 0 4 0 0)), (5, ai 2), (9, .agg [.d (.s 0 1 R0 p0), .d (.s 0 1 R1 p1), .d (.s 0 1 R2 p2), .d (.s 0 1 R3 p3)]), (10, ai 2), (14, aS 1 R2 p2), (15, ai R2.length), (16, ai i)], [(3, .bx 0 4 [.d nilD, .d nilD, .d nilD, .d nilD]), (5, .bx 0 4 [.rs 2000000 0 3 0 R0.length R0.length, .rs 2000001 0 3 0 R1.length R1.length, .rs 2000002 0 3 0 m m, .d nilD]), (2000000, .sl 0 3 (mW R0)), (2000001, .sl 0 3 (mW R1)), (2000002, .sl 0 3 W)], []⟩
def vN2 (R0 p0 R1 p1 R2 p2 R3 p3 : List (List D)) (y : X) : X := stN2 R0 p0 R1 p1 R2 p2 R3 p3 (rowsL y 2000002) (boxL y 5 2) (slotI y 16)
theorem eN2r (R0 p0 R1 p1 R2 p2 R3 p3 : List (List D)) (W : List (List D)) (m : Nat) (i : Int) (N : X → Prop) (E : Exit → X → Prop) : (roundA band bor Try.prog [] [] Try.f20 1 [2, 3, 4, 5, 9, 10, 14, 15, 16] [3, 5, 2000000, 2000001, 2000002] (vN2 R0 p0 R1 p1 R2 p2 R3 p3) (vN2 R0 p0 R1 p1 R2 p2 R3 p3) N E (stN2 R0 p0 R1 p1 R2 p2 R3 p3 W m i)) = (bif decide (i < @Nat.cast Int _ (List.length R2)) then bif decide (0 ≤ i) && decide (i < @Nat.cast Int _ (List.length R2)) then bif isJ [IntKind.i64] (List.drop (0) (List.getD R2 (Int.toNat i) [])) then bif decide (m ≤ List.length W) && (decide ((m + 1) * 24 ≤ 140737488355328) && decide (m + 1 ≤ 9223372036854775807)) then stN2 R0 p0 R1 p1 R2 p2 R3 p3 (List.take m W ++ [[D.v (Value.int IntKind.i64 (hdJ (List.drop (0) (List.getD R2 (Int.toNat i) [])))), D.v (Value.int IntKind.i64 (0)), D.v (Value.int IntKind.i64 (0))]]) (Nat.succ m) (IntKind.wrap IntKind.i64 (i + 1)) = stN2 R0 p0 R1 p1 R2 p2 R3 p3 (List.take m W ++ [[D.v (Value.int IntKind.i64 (hdJ (List.drop (0) (List.getD R2 (Int.toNat i) [])))), D.v (Value.int IntKind.i64 (0)), D.v (Value.int IntKind.i64 (0))]]) (Nat.succ m) (IntKind.wrap IntKind.i64 (i + 1)) ∧ N (stN2 R0 p0 R1 p1 R2 p2 R3 p3 (List.take m W ++ [[D.v (Value.int IntKind.i64 (hdJ (List.drop (0) (List.getD R2 (Int.toNat i) [])))), D.v (Value.int IntKind.i64 (0)), D.v (Value.int IntKind.i64 (0))]]) (Nat.succ m) (IntKind.wrap IntKind.i64 (i + 1))) else False else False else False else stN2 R0 p0 R1 p1 R2 p2 R3 p3 W m i = stN2 R0 p0 R1 p1 R2 p2 R3 p3 W m i ∧ E (Exit.exit (2)) (stN2 R0 p0 R1 p1 R2 p2 R3 p3 W m i)) := by kernel_rfl
def sN2 (R0 p0 R1 p1 R2 p2 R3 p3 : List (List D)) : LSum := fun Q x => x.only [2, 3, 4, 5, 9, 10, 14, 15, 16] [3, 5, 2000000, 2000001, 2000002] = stP2 R0 p0 R1 p1 R2 p2 R3 p3 0 ∧ Q (.exit 2) (stN2 R0 p0 R1 p1 R2 p2 R3 p3 (mW R2) R2.length R2.length)
def stQ2 (R0 p0 R1 p1 R2 p2 R3 p3 : List (List D)) (e i : Int) : X := ⟨mkT 47 [(1, .c (.rp 2 0 4 0 0)), (2, .c (.rp 3 0 4 0 0)), (3, ai e), (4, .c (.rp 5 0 4 0 0)), (5, ai 2), (6, ai i)], [(2, .bx 0 4 [.d (.s 0 1 R0 p0), .d (.s 0 1 R1 p1), .d (.s 0 1 R2 p2), .d (.s 0 1 R3 p3)]), (3, .bx 0 4 [.d nilD, .d nilD, .d nilD, .d nilD]), (5, .bx 0 4 [.rs 2000000 0 3 0 R0.length R0.length, .rs 2000001 0 3 0 R1.length R1.length, .d nilD, .d nilD]), (2000000, .sl 0 3 (mW R0)), (2000001, .sl 0 3 (mW R1))], []⟩
def stM2 (R0 p0 R1 p1 R2 p2 R3 p3 : List (List D)) (W : List (List D)) (m : Nat) (e i : Int) : X := ⟨mkT 47 [(1, .c (.rp 2 0 4 0 0)), (2, .c (.rp 3 0 4 0 0)), (3, ai e), (4, .c (.rp 5 0 4 0 0)), (5, ai 2), (6, ai i)], [(2, .bx 0 4 [.d (.s 0 1 R0 p0), .d (.s 0 1 R1 p1), .d (.s 0 1 R2 p2), .d (.s 0 1 R3 p3)]), (3, .bx 0 4 [.d nilD, .d nilD, .d nilD, .d nilD]), (5, .bx 0 4 [.rs 2000000 0 3 0 R0.length R0.length, .rs 2000001 0 3 0 R1.length R1.length, .rs 2000002 0 3 0 m m, .d nilD]), (2000000, .sl 0 3 (mW R0)), (2000001, .sl 0 3 (mW R1)), (2000002, .sl 0 3 W)], []⟩
def vM2 (R0 p0 R1 p1 R2 p2 R3 p3 : List (List D)) (y : X) : X := stM2 R0 p0 R1 p1 R2 p2 R3 p3 (rowsL y 2000002) (boxL y 5 2) (slotI y 3) (slotI y 6)
theorem eM2r (R0 p0 R1 p1 R2 p2 R3 p3 : List (List D)) (W : List (List D)) (m : Nat) (e i : Int) (N : X → Prop) (E : Exit → X → Prop) : (roundA band bor Try.prog [(58, sB val8)] [] Try.f21 1 [1, 2, 3, 4, 5, 6] [2, 3, 5, 2000000, 2000001, 2000002] (vM2 R0 p0 R1 p1 R2 p2 R3 p3) (vM2 R0 p0 R1 p1 R2 p2 R3 p3) N E (stM2 R0 p0 R1 p1 R2 p2 R3 p3 W m e i)) = (bif decide (i < @Nat.cast Int _ (List.length R2)) then bif decide (i ≥ 4) then stM2 R0 p0 R1 p1 R2 p2 R3 p3 W m (400) i = stM2 R0 p0 R1 p1 R2 p2 R3 p3 W m (400) i ∧ E Exit.ret (stM2 R0 p0 R1 p1 R2 p2 R3 p3 W m (400) i) else bif decide (0 ≤ i) && decide (i < @Nat.cast Int _ (List.length R2)) then bif isJ [IntKind.i64] (List.drop (0) (List.getD R2 (Int.toNat i) [])) then bif !(decide (hdJ (List.drop (0) (List.getD R2 (Int.toNat i) [])) ≥ 0) && decide (hdJ (List.drop (0) (List.getD R2 (Int.toNat i) [])) ≤ 255)) then stM2 R0 p0 R1 p1 R2 p2 R3 p3 W m (400) i = stM2 R0 p0 R1 p1 R2 p2 R3 p3 W m (400) i ∧ E Exit.ret (stM2 R0 p0 R1 p1 R2 p2 R3 p3 W m (400) i) else bif decide (0 ≤ i) && decide (i < @Nat.cast Int _ (List.length R2)) then bif isJ [IntKind.i64] (List.drop (0) (List.getD R2 (Int.toNat i) [])) then bif decide (m ≤ List.length W) && (decide ((m + 1) * 24 ≤ 140737488355328) && decide (m + 1 ≤ 9223372036854775807)) then stM2 R0 p0 R1 p1 R2 p2 R3 p3 (List.take m W ++ [[D.v (Value.int IntKind.i64 (hdJ (List.drop (0) (List.getD R2 (Int.toNat i) [])))), D.v (Value.int IntKind.i64 (0)), D.v (Value.int IntKind.i64 (0))]]) (Nat.succ m) e (IntKind.wrap IntKind.i64 (i + 1)) = stM2 R0 p0 R1 p1 R2 p2 R3 p3 (List.take m W ++ [[D.v (Value.int IntKind.i64 (hdJ (List.drop (0) (List.getD R2 (Int.toNat i) [])))), D.v (Value.int IntKind.i64 (0)), D.v (Value.int IntKind.i64 (0))]]) (Nat.succ m) e (IntKind.wrap IntKind.i64 (i + 1)) ∧ N (stM2 R0 p0 R1 p1 R2 p2 R3 p3 (List.take m W ++ [[D.v (Value.int IntKind.i64 (hdJ (List.drop (0) (List.getD R2 (Int.toNat i) [])))), D.v (Value.int IntKind.i64 (0)), D.v (Value.int IntKind.i64 (0))]]) (Nat.succ m) e (IntKind.wrap IntKind.i64 (i + 1))) else False else False else False else False else False else stM2 R0 p0 R1 p1 R2 p2 R3 p3 W m e i = stM2 R0 p0 R1 p1 R2 p2 R3 p3 W m e i ∧ E (Exit.exit (2)) (stM2 R0 p0 R1 p1 R2 p2 R3 p3 W m e i)) := by kernel_rfl
def sM2 (R0 p0 R1 p1 R2 p2 R3 p3 : List (List D)) : LSum := fun Q x => x.only [1, 2, 3, 4, 5, 6] [2, 3, 5, 2000000, 2000001, 2000002] = stQ2 R0 p0 R1 p1 R2 p2 R3 p3 0 0 ∧ (rowMay (toZ (mW R2)) = false → ∀ (W : List (List D)) (m : Nat) (i : Int), Q .ret (stM2 R0 p0 R1 p1 R2 p2 R3 p3 W m 400 i)) ∧ (rowMay (toZ (mW R2)) = true → Q (.exit 2) (stM2 R0 p0 R1 p1 R2 p2 R3 p3 (mW R2) R2.length 0 R2.length))
def stP3 (R0 p0 R1 p1 R2 p2 R3 p3 : List (List D)) (i : Int) : X := ⟨mkT 36 [(2, .c (.rp 3 0 4 0 0)), (3, ai 0), (4, .c (.rp 5 0 4 0 0)), (5, ai 3), (9, .agg [.d (.s 0 1 R0 p0), .d (.s 0 1 R1 p1), .d (.s 0 1 R2 p2), .d (.s 0 1 R3 p3)]), (10, ai 3), (14, aS 1 R3 p3), (15, ai R3.length), (16, ai i)], [(3, .bx 0 4 [.d nilD, .d nilD, .d nilD, .d nilD]), (5, .bx 0 4 [.rs 2000000 0 3 0 R0.length R0.length, .rs 2000001 0 3 0 R1.length R1.length, .rs 2000002 0 3 0 R2.length R2.length, .d nilD]), (2000000, .sl 0 3 (mW R0)), (2000001, .sl 0 3 (mW R1)), (2000002, .sl 0 3 (mW R2))], []⟩
def stN3 (R0 p0 R1 p1 R2 p2 R3 p3 : List (List D)) (W : List (List D)) (m : Nat) (i : Int) : X := ⟨mkT 36 [(2, .c (.rp 3 0 4 0 0)), (3, ai 0), (4, .c (.rp 5 0 4 0 0)), (5, ai 3), (9, .agg [.d (.s 0 1 R0 p0), .d (.s 0 1 R1 p1), .d (.s 0 1 R2 p2), .d (.s 0 1 R3 p3)]), (10, ai 3), (14, aS 1 R3 p3), (15, ai R3.length), (16, ai i)], [(3, .bx 0 4 [.d nilD, .d nilD, .d nilD, .d nilD]), (5, .bx 0 4 [.rs 2000000 0 3 0 R0.length R0.length, .rs 2000001 0 3 0 R1.length R1.length, .rs 2000002 0 3 0 R2.length R2.length, .rs 2000003 0 3 0 m m]), (2000000, .sl 0 3 (mW R0)), (2000001, .sl 0 3 (mW R1)), (2000002, .sl 0 3 (mW R2)), (2000003, .sl 0 3 W)], []⟩
def vN3 (R0 p0 R1 p1 R2 p2 R3 p3 : List (List D)) (y : X) : X := stN3 R0 p0 R1 p1 R2 p2 R3 p3 (rowsL y 2000003) (boxL y 5 3) (slotI y 16)
theorem eN3r (R0 p0 R1 p1 R2 p2 R3 p3 : List (List D)) (W : List (List D)) (m : Nat) (i : Int) (N : X → Prop) (E : Exit → X → Prop) : (roundA band bor Try.prog [] [] Try.f20 1 [2, 3, 4, 5, 9, 10, 14, 15, 16] [3, 5, 2000000, 2000001, 2000002, 2000003] (vN3 R0 p0 R1 p1 R2 p2 R3 p3) (vN3 R0 p0 R1 p1 R2 p2 R3 p3) N E (stN3 R0 p0 R1 p1 R2 p2 R3 p3 W m i)) = (bif decide (i < @Nat.cast Int _ (List.length R3)) then bif decide (0 ≤ i) && decide (i < @Nat.cast Int _ (List.length R3)) then bif isJ [IntKind.i64] (List.drop (0) (List.getD R3 (Int.toNat i) [])) then bif decide (m ≤ List.length W) && (decide ((m + 1) * 24 ≤ 140737488355328) && decide (m + 1 ≤ 9223372036854775807)) then stN3 R0 p0 R1 p1 R2 p2 R3 p3 (List.take m W ++ [[D.v (Value.int IntKind.i64 (hdJ (List.drop (0) (List.getD R3 (Int.toNat i) [])))), D.v (Value.int IntKind.i64 (0)), D.v (Value.int IntKind.i64 (0))]]) (Nat.succ m) (IntKind.wrap IntKind.i64 (i + 1)) = stN3 R0 p0 R1 p1 R2 p2 R3 p3 (List.take m W ++ [[D.v (Value.int IntKind.i64 (hdJ (List.drop (0) (List.getD R3 (Int.toNat i) [])))), D.v (Value.int IntKind.i64 (0)), D.v (Value.int IntKind.i64 (0))]]) (Nat.succ m) (IntKind.wrap IntKind.i64 (i + 1)) ∧ N (stN3 R0 p0 R1 p1 R2 p2 R3 p3 (List.take m W ++ [[D.v (Value.int IntKind.i64 (hdJ (List.drop (0) (List.getD R3 (Int.toNat i) [])))), D.v (Value.int IntKind.i64 (0)), D.v (Value.int IntKind.i64 (0))]]) (Nat.succ m) (IntKind.wrap IntKind.i64 (i + 1))) else False else False else False else stN3 R0 p0 R1 p1 R2 p2 R3 p3 W m i = stN3 R0 p0 R1 p1 R2 p2 R3 p3 W m i ∧ E (Exit.exit (2)) (stN3 R0 p0 R1 p1 R2 p2 R3 p3 W m i)) := by kernel_rfl
def sN3 (R0 p0 R1 p1 R2 p2 R3 p3 : List (List D)) : LSum := fun Q x => x.only [2, 3, 4, 5, 9, 10, 14, 15, 16] [3, 5, 2000000, 2000001, 2000002, 2000003] = stP3 R0 p0 R1 p1 R2 p2 R3 p3 0 ∧ Q (.exit 2) (stN3 R0 p0 R1 p1 R2 p2 R3 p3 (mW R3) R3.length R3.length)
def stQ3 (R0 p0 R1 p1 R2 p2 R3 p3 : List (List D)) (e i : Int) : X := ⟨mkT 47 [(1, .c (.rp 2 0 4 0 0)), (2, .c (.rp 3 0 4 0 0)), (3, ai e), (4, .c (.rp 5 0 4 0 0)), (5, ai 3), (6, ai i)], [(2, .bx 0 4 [.d (.s 0 1 R0 p0), .d (.s 0 1 R1 p1), .d (.s 0 1 R2 p2), .d (.s 0 1 R3 p3)]), (3, .bx 0 4 [.d nilD, .d nilD, .d nilD, .d nilD]), (5, .bx 0 4 [.rs 2000000 0 3 0 R0.length R0.length, .rs 2000001 0 3 0 R1.length R1.length, .rs 2000002 0 3 0 R2.length R2.length, .d nilD]), (2000000, .sl 0 3 (mW R0)), (2000001, .sl 0 3 (mW R1)), (2000002, .sl 0 3 (mW R2))], []⟩
def stM3 (R0 p0 R1 p1 R2 p2 R3 p3 : List (List D)) (W : List (List D)) (m : Nat) (e i : Int) : X := ⟨mkT 47 [(1, .c (.rp 2 0 4 0 0)), (2, .c (.rp 3 0 4 0 0)), (3, ai e), (4, .c (.rp 5 0 4 0 0)), (5, ai 3), (6, ai i)], [(2, .bx 0 4 [.d (.s 0 1 R0 p0), .d (.s 0 1 R1 p1), .d (.s 0 1 R2 p2), .d (.s 0 1 R3 p3)]), (3, .bx 0 4 [.d nilD, .d nilD, .d nilD, .d nilD]), (5, .bx 0 4 [.rs 2000000 0 3 0 R0.length R0.length, .rs 2000001 0 3 0 R1.length R1.length, .rs 2000002 0 3 0 R2.length R2.length, .rs 2000003 0 3 0 m m]), (2000000, .sl 0 3 (mW R0)), (2000001, .sl 0 3 (mW R1)), (2000002, .sl 0 3 (mW R2)), (2000003, .sl 0 3 W)], []⟩
def vM3 (R0 p0 R1 p1 R2 p2 R3 p3 : List (List D)) (y : X) : X := stM3 R0 p0 R1 p1 R2 p2 R3 p3 (rowsL y 2000003) (boxL y 5 3) (slotI y 3) (slotI y 6)
theorem eM3r (R0 p0 R1 p1 R2 p2 R3 p3 : List (List D)) (W : List (List D)) (m : Nat) (e i : Int) (N : X → Prop) (E : Exit → X → Prop) : (roundA band bor Try.prog [(58, sB val8)] [] Try.f21 1 [1, 2, 3, 4, 5, 6] [2, 3, 5, 2000000, 2000001, 2000002, 2000003] (vM3 R0 p0 R1 p1 R2 p2 R3 p3) (vM3 R0 p0 R1 p1 R2 p2 R3 p3) N E (stM3 R0 p0 R1 p1 R2 p2 R3 p3 W m e i)) = (bif decide (i < @Nat.cast Int _ (List.length R3)) then bif decide (i ≥ 4) then stM3 R0 p0 R1 p1 R2 p2 R3 p3 W m (400) i = stM3 R0 p0 R1 p1 R2 p2 R3 p3 W m (400) i ∧ E Exit.ret (stM3 R0 p0 R1 p1 R2 p2 R3 p3 W m (400) i) else bif decide (0 ≤ i) && decide (i < @Nat.cast Int _ (List.length R3)) then bif isJ [IntKind.i64] (List.drop (0) (List.getD R3 (Int.toNat i) [])) then bif !(decide (hdJ (List.drop (0) (List.getD R3 (Int.toNat i) [])) ≥ 0) && decide (hdJ (List.drop (0) (List.getD R3 (Int.toNat i) [])) ≤ 255)) then stM3 R0 p0 R1 p1 R2 p2 R3 p3 W m (400) i = stM3 R0 p0 R1 p1 R2 p2 R3 p3 W m (400) i ∧ E Exit.ret (stM3 R0 p0 R1 p1 R2 p2 R3 p3 W m (400) i) else bif decide (0 ≤ i) && decide (i < @Nat.cast Int _ (List.length R3)) then bif isJ [IntKind.i64] (List.drop (0) (List.getD R3 (Int.toNat i) [])) then bif decide (m ≤ List.length W) && (decide ((m + 1) * 24 ≤ 140737488355328) && decide (m + 1 ≤ 9223372036854775807)) then stM3 R0 p0 R1 p1 R2 p2 R3 p3 (List.take m W ++ [[D.v (Value.int IntKind.i64 (hdJ (List.drop (0) (List.getD R3 (Int.toNat i) [])))), D.v (Value.int IntKind.i64 (0)), D.v (Value.int IntKind.i64 (0))]]) (Nat.succ m) e (IntKind.wrap IntKind.i64 (i + 1)) = stM3 R0 p0 R1 p1 R2 p2 R3 p3 (List.take m W ++ [[D.v (Value.int IntKind.i64 (hdJ (List.drop (0) (List.getD R3 (Int.toNat i) [])))), D.v (Value.int IntKind.i64 (0)), D.v (Value.int IntKind.i64 (0))]]) (Nat.succ m) e (IntKind.wrap IntKind.i64 (i + 1)) ∧ N (stM3 R0 p0 R1 p1 R2 p2 R3 p3 (List.take m W ++ [[D.v (Value.int IntKind.i64 (hdJ (List.drop (0) (List.getD R3 (Int.toNat i) [])))), D.v (Value.int IntKind.i64 (0)), D.v (Value.int IntKind.i64 (0))]]) (Nat.succ m) e (IntKind.wrap IntKind.i64 (i + 1))) else False else False else False else False else False else stM3 R0 p0 R1 p1 R2 p2 R3 p3 W m e i = stM3 R0 p0 R1 p1 R2 p2 R3 p3 W m e i ∧ E (Exit.exit (2)) (stM3 R0 p0 R1 p1 R2 p2 R3 p3 W m e i)) := by kernel_rfl
def sM3 (R0 p0 R1 p1 R2 p2 R3 p3 : List (List D)) : LSum := fun Q x => x.only [1, 2, 3, 4, 5, 6] [2, 3, 5, 2000000, 2000001, 2000002, 2000003] = stQ3 R0 p0 R1 p1 R2 p2 R3 p3 0 0 ∧ (rowMay (toZ (mW R3)) = false → ∀ (W : List (List D)) (m : Nat) (i : Int), Q .ret (stM3 R0 p0 R1 p1 R2 p2 R3 p3 W m 400 i)) ∧ (rowMay (toZ (mW R3)) = true → Q (.exit 2) (stM3 R0 p0 R1 p1 R2 p2 R3 p3 (mW R3) R3.length 0 R3.length))
def sumNew (R0 p0 R1 p1 R2 p2 R3 p3 : List (List D)) : LSum := fun Q x => withI x 5 fun g =>
  cond (decide (g = 0)) (sN0 R0 p0 R1 p1 R2 p2 R3 p3 Q x) (cond (decide (g = 1)) (sN1 R0 p0 R1 p1 R2 p2 R3 p3 Q x) (cond (decide (g = 2)) (sN2 R0 p0 R1 p1 R2 p2 R3 p3 Q x) (sN3 R0 p0 R1 p1 R2 p2 R3 p3 Q x)))
def sumRNew (R0 p0 R1 p1 R2 p2 R3 p3 : List (List D)) : LSum := fun Q x => withI x 5 fun g =>
  cond (decide (g = 0)) (sM0 R0 p0 R1 p1 R2 p2 R3 p3 Q x) (cond (decide (g = 1)) (sM1 R0 p0 R1 p1 R2 p2 R3 p3 Q x) (cond (decide (g = 2)) (sM2 R0 p0 R1 p1 R2 p2 R3 p3 Q x) (sM3 R0 p0 R1 p1 R2 p2 R3 p3 Q x)))
theorem eNew (R0 p0 R1 p1 R2 p2 R3 p3 : List (List D)) (K : DV → Prop) : (askL Try.prog [(28, sAMay)] [(6, sumNew R0 p0 R1 p1 R2 p2 R3 p3)] Try.f20 [dV R0 p0 R1 p1 R2 p2 R3 p3] K) = (stP0 R0 p0 R1 p1 R2 p2 R3 p3 (0) = stP0 R0 p0 R1 p1 R2 p2 R3 p3 (0) ∧ stP1 R0 p0 R1 p1 R2 p2 R3 p3 (0) = stP1 R0 p0 R1 p1 R2 p2 R3 p3 (0) ∧ stP2 R0 p0 R1 p1 R2 p2 R3 p3 (0) = stP2 R0 p0 R1 p1 R2 p2 R3 p3 (0) ∧ stP3 R0 p0 R1 p1 R2 p2 R3 p3 (0) = stP3 R0 p0 R1 p1 R2 p2 R3 p3 (0) ∧ bif decide (0 + List.length R0 ≤ List.length (mW R0)) then bif decide (0 + List.length R1 ≤ List.length (mW R1)) then bif decide (0 + List.length R2 ≤ List.length (mW R2)) then bif decide (0 + List.length R3 ≤ List.length (mW R3)) then bif okA (cut (mW R0) (0) (List.length R0)) (cut (mW R1) (0) (List.length R1)) (cut (mW R2) (0) (List.length R2)) (cut (mW R3) (0) (List.length R3)) then bif !amay (toZ (cut (mW R0) (0) (List.length R0))) (toZ (cut (mW R1) (0) (List.length R1))) (toZ (cut (mW R2) (0) (List.length R2))) (toZ (cut (mW R3) (0) (List.length R3))) then K (DV.tup [DV.agg [D.v (Value.slice none (0) (0)), D.v (Value.slice none (0) (0)), D.v (Value.slice none (0) (0)), D.v (Value.slice none (0) (0))], DV.c (D.v (Value.int IntKind.i64 (400)))]) else bif decide (List.length R0 ≤ List.length (mW R0)) && List.all (mW R0) fun r => List.all r D.keeps then bif decide (List.length R1 ≤ List.length (mW R1)) && List.all (mW R1) fun r => List.all r D.keeps then bif decide (List.length R2 ≤ List.length (mW R2)) && List.all (mW R2) fun r => List.all r D.keeps then bif decide (List.length R3 ≤ List.length (mW R3)) && List.all (mW R3) fun r => List.all r D.keeps then K (DV.tup [DV.agg [D.s (1) (3) (List.take (List.length R0) (mW R0)) (List.take (List.length R0 - List.length R0) (List.drop (List.length R0) (mW R0))), D.s (1) (3) (List.take (List.length R1) (mW R1)) (List.take (List.length R1 - List.length R1) (List.drop (List.length R1) (mW R1))), D.s (1) (3) (List.take (List.length R2) (mW R2)) (List.take (List.length R2 - List.length R2) (List.drop (List.length R2) (mW R2))), D.s (1) (3) (List.take (List.length R3) (mW R3)) (List.take (List.length R3 - List.length R3) (List.drop (List.length R3) (mW R3)))], DV.c (D.v (Value.int IntKind.i64 (0)))]) else False else False else False else False else False else False else False else False else False) := by kernel_rfl
theorem eRNew (R0 p0 R1 p1 R2 p2 R3 p3 : List (List D)) (K : DV → Prop) : (askL Try.prog [(58, sB val8)] [(6, sumRNew R0 p0 R1 p1 R2 p2 R3 p3)] Try.f21 [dV R0 p0 R1 p1 R2 p2 R3 p3] K) = (stQ0 R0 p0 R1 p1 R2 p2 R3 p3 (0) (0) = stQ0 R0 p0 R1 p1 R2 p2 R3 p3 (0) (0) ∧ (rowMay (toZ (mW R0)) = false → ∀ (W : List (List D)) (m : Nat) (i : Int), K (DV.tup [DV.agg [D.v (Value.slice none (0) (0)), D.v (Value.slice none (0) (0)), D.v (Value.slice none (0) (0)), D.v (Value.slice none (0) (0))], DV.c (D.v (Value.int IntKind.i64 (400)))])) ∧ (rowMay (toZ (mW R0)) = true → stQ1 R0 p0 R1 p1 R2 p2 R3 p3 (0) (0) = stQ1 R0 p0 R1 p1 R2 p2 R3 p3 (0) (0) ∧ (rowMay (toZ (mW R1)) = false → ∀ (W : List (List D)) (m : Nat) (i : Int), K (DV.tup [DV.agg [D.v (Value.slice none (0) (0)), D.v (Value.slice none (0) (0)), D.v (Value.slice none (0) (0)), D.v (Value.slice none (0) (0))], DV.c (D.v (Value.int IntKind.i64 (400)))])) ∧ (rowMay (toZ (mW R1)) = true → stQ2 R0 p0 R1 p1 R2 p2 R3 p3 (0) (0) = stQ2 R0 p0 R1 p1 R2 p2 R3 p3 (0) (0) ∧ (rowMay (toZ (mW R2)) = false → ∀ (W : List (List D)) (m : Nat) (i : Int), K (DV.tup [DV.agg [D.v (Value.slice none (0) (0)), D.v (Value.slice none (0) (0)), D.v (Value.slice none (0) (0)), D.v (Value.slice none (0) (0))], DV.c (D.v (Value.int IntKind.i64 (400)))])) ∧ (rowMay (toZ (mW R2)) = true → stQ3 R0 p0 R1 p1 R2 p2 R3 p3 (0) (0) = stQ3 R0 p0 R1 p1 R2 p2 R3 p3 (0) (0) ∧ (rowMay (toZ (mW R3)) = false → ∀ (W : List (List D)) (m : Nat) (i : Int), K (DV.tup [DV.agg [D.v (Value.slice none (0) (0)), D.v (Value.slice none (0) (0)), D.v (Value.slice none (0) (0)), D.v (Value.slice none (0) (0))], DV.c (D.v (Value.int IntKind.i64 (400)))])) ∧ (rowMay (toZ (mW R3)) = true → bif decide (List.length R0 ≤ List.length (mW R0)) && List.all (mW R0) fun r => List.all r D.keeps then bif decide (List.length R1 ≤ List.length (mW R1)) && List.all (mW R1) fun r => List.all r D.keeps then bif decide (List.length R2 ≤ List.length (mW R2)) && List.all (mW R2) fun r => List.all r D.keeps then bif decide (List.length R3 ≤ List.length (mW R3)) && List.all (mW R3) fun r => List.all r D.keeps then K (DV.tup [DV.agg [D.s (1) (3) (List.take (List.length R0) (mW R0)) (List.take (List.length R0 - List.length R0) (List.drop (List.length R0) (mW R0))), D.s (1) (3) (List.take (List.length R1) (mW R1)) (List.take (List.length R1 - List.length R1) (List.drop (List.length R1) (mW R1))), D.s (1) (3) (List.take (List.length R2) (mW R2)) (List.take (List.length R2 - List.length R2) (List.drop (List.length R2) (mW R2))), D.s (1) (3) (List.take (List.length R3) (mW R3)) (List.take (List.length R3 - List.length R3) (List.drop (List.length R3) (mW R3)))], DV.c (D.v (Value.int IntKind.i64 (0)))]) else False else False else False else False))))) := by kernel_rfl
theorem mL_len (l : List (List Int)) : (mL l).length = l.length := by simp [mL]
theorem mW_len (R : List (List D)) : (mW R).length = R.length := by simp [mW, mZ_len, mL_len, toZ_len]
theorem mL_take (l : List (List Int)) {i : Nat} (hi : i < l.length) : List.take i (mZ (mL (l.take i))) ++ [[D.v (Value.int IntKind.i64 ((l.getD i []).getD 0 0)), D.v (Value.int IntKind.i64 0), D.v (Value.int IntKind.i64 0)]] = mZ (mL (l.take (i + 1))) := by
  rw [List.take_of_length_le (by rw [mZ_len, mL_len, List.length_take]; omega)]
  have : l.take (i + 1) = l.take i ++ [l.getD i []] := by
    rw [List.take_add_one, List.getD_eq_getElem?_getD]
    congr 1
    rw [List.getElem?_eq_getElem hi]; rfl
  rw [this]
  simp [mZ, mL]
theorem mL_get (l : List (List Int)) {i : Nat} (hi : i < l.length) : (mL l).getD i [] = [(l.getD i []).getD 0 0, 0, 0] := by
  simp [mL, List.getD_eq_getElem?_getD, hi]
theorem wmayR_v (v : Int) : wmayR [v, 0, 0] = val8 v := by
  have h1 : clk 0 = true := rfl
  have h2 : upto 0 0 255 = true := rfl
  simp [wmayR, wmay, h1, h2]
theorem wid_mL (l : List (List Int)) : wid 3 (mL l) := fun r hr => by
  obtain ⟨r0, _, rfl⟩ := List.mem_map.1 hr
  rfl
theorem toZ_mW (R : List (List D)) : toZ (mW R) = mL (toZ R) := toZ_mZ _
theorem okZ_mW {R : List (List D)} (h : okZ 1 R = true) : okZ 3 (mW R) = true := okZ_mZ (wid_mL _) (by rw [mL_len, toZ_len]; exact (okZ_spec h).2.2)
theorem n0_ok {R0 p0 R1 p1 R2 p2 R3 p3 : List (List D)} (hR : okZ 1 R0 = true) (hn : R0.length ≤ 5864062014635) (Q : Exit → X → Prop) (x : X) (h : sN0 R0 p0 R1 p1 R2 p2 R3 p3 Q x) : XWP Try.prog (.loop (bodyL Try.f20 1)) Q x := by
  obtain ⟨h1, h2⟩ := h
  obtain ⟨el, hw, _⟩ := okZ_spec hR
  have hl' : (toZ R0).length = R0.length := toZ_len _
  refine xwp_only [2, 3, 4, 5, 9, 10, 14, 15, 16] [3, 5, 2000000] (xwp_post [2, 3, 4, 5, 9, 10, 14, 15, 16] [3, 5, 2000000] ?_)
  rw [h1]
  refine xwp_nilc (kb := 5) (j := 0) (kn := 2000000) (wd := 3) rfl ?_
  refine xwp_roundH (ι := Nat) (H := hkA band bor [] []) (fn := Try.f20) (i := 1) (ts := [2, 3, 4, 5, 9, 10, 14, 15, 16]) (ks := [3, 5, 2000000]) (hkl_ok .nil) mixed (loops_nil rfl)
    (fun i => stN0 R0 p0 R1 p1 R2 p2 R3 p3 (mZ (mL ((toZ R0).take i))) i i) (fun i => i ≤ R0.length) (fun i => R0.length - i) 0 (vN0 R0 p0 R1 p1 R2 p2 R3 p3) (vN0 R0 p0 R1 p1 R2 p2 R3 p3) (fun i hi => ?_) (Nat.zero_le _) (by kernel_rfl)
  show roundA band bor Try.prog _ _ Try.f20 1 _ _ _ _ _ _ _
  rw [eN0r]
  by_cases hl : i < R0.length
  · have wi : IntKind.wrap .i64 ((i : Int) + 1) = ((i + 1 : Nat) : Int) := wrap_nat (n := 1) (by omega)
    have hll : i < (toZ R0).length := by omega
    have hj1 : isJ [IntKind.i64] ((R0).getD i []) = true := by
      rw [el]; exact isJ_mZ (j := 0) (n := 1) hw hll (by omega)
    have hv : hdJ (R0.getD i []) = ((toZ R0).getD i []).getD 0 0 := by
      rw [show R0.getD i [] = (mZ (toZ R0)).getD i [] by rw [← el], hdJ_mZ0]
    have hlen : (mZ (mL ((toZ R0).take i))).length = i := by rw [mZ_len, mL_len, List.length_take]; omega
    have b1 : (i + 1) * 24 ≤ 140737488355328 := by omega
    have b2 : i + 1 ≤ 9223372036854775807 := by omega
    simp only [Int.ofNat_lt, hl, decide_true, cond_true, Int.natCast_nonneg, Bool.and_self, Int.toNat_natCast, hj1, List.drop_zero, hv, true_and, wi, hlen, b1, b2, Nat.le_refl, mL_take _ hll]
    exact ⟨i + 1, by omega, hl, rfl⟩
  · have e : i = R0.length := by omega
    subst e
    simp only [Int.ofNat_lt, Nat.lt_irrefl, decide_false, cond_false, true_and]
    rw [List.take_of_length_le (by omega)]
    exact h2
theorem m0_ok {R0 p0 R1 p1 R2 p2 R3 p3 : List (List D)} (hR : okZ 1 R0 = true) (hn : R0.length ≤ 5864062014635) (Q : Exit → X → Prop) (x : X) (h : sM0 R0 p0 R1 p1 R2 p2 R3 p3 Q x) : XWP Try.prog (.loop (bodyL Try.f21 1)) Q x := by
  obtain ⟨h1, h2, h3⟩ := h
  obtain ⟨el, hw, _⟩ := okZ_spec hR
  have hl' : (toZ R0).length = R0.length := toZ_len _
  refine xwp_only [1, 2, 3, 4, 5, 6] [2, 3, 5, 2000000] (xwp_post [1, 2, 3, 4, 5, 6] [2, 3, 5, 2000000] ?_)
  rw [h1]
  refine xwp_nilc (kb := 5) (j := 0) (kn := 2000000) (wd := 3) rfl ?_
  refine xwp_roundH (ι := Nat) (H := hkA band bor [(58, sB val8)] []) (fn := Try.f21) (i := 1) (ts := [1, 2, 3, 4, 5, 6]) (ks := [2, 3, 5, 2000000]) (hkl_ok (.cons oRVal .nil)) mixed (loops_nil rfl)
    (fun i => stM0 R0 p0 R1 p1 R2 p2 R3 p3 (mZ (mL ((toZ R0).take i))) i 0 i) (fun i => i ≤ R0.length ∧ i ≤ 4 ∧ ∀ j, j < i → wmayR ((mL (toZ R0)).getD j []) = true) (fun i => R0.length - i) 0 (vM0 R0 p0 R1 p1 R2 p2 R3 p3) (vM0 R0 p0 R1 p1 R2 p2 R3 p3) (fun i hp => ?_) ⟨Nat.zero_le _, Nat.zero_le _, fun j hj => by omega⟩ (by kernel_rfl)
  obtain ⟨hi, h4, hj⟩ := hp
  show roundA band bor Try.prog _ _ Try.f21 1 _ _ _ _ _ _ _
  rw [eM0r]
  by_cases hl : i < R0.length
  · by_cases h4' : i = 4
    · have e4 : decide ((i : Int) ≥ 4) = true := by simp; omega
      simp only [Int.ofNat_lt, hl, decide_true, cond_true, e4, true_and]
      exact h2 (by rw [toZ_mW]; exact rowMay_long (by rw [mL_len]; omega)) _ _ _
    · have e4 : decide ((i : Int) ≥ 4) = false := by simp; omega
      have wi : IntKind.wrap .i64 ((i : Int) + 1) = ((i + 1 : Nat) : Int) := wrap_nat (n := 1) (by omega)
      have hll : i < (toZ R0).length := by omega
      have hj1 : isJ [IntKind.i64] ((R0).getD i []) = true := by
        rw [el]; exact isJ_mZ (j := 0) (n := 1) hw hll (by omega)
      have hv : hdJ (R0.getD i []) = ((toZ R0).getD i []).getD 0 0 := by
        rw [show R0.getD i [] = (mZ (toZ R0)).getD i [] by rw [← el], hdJ_mZ0]
      have hlen : (mZ (mL ((toZ R0).take i))).length = i := by rw [mZ_len, mL_len, List.length_take]; omega
      have b1 : (i + 1) * 24 ≤ 140737488355328 := by omega
      have b2 : i + 1 ≤ 9223372036854775807 := by omega
      simp only [Int.ofNat_lt, hl, decide_true, cond_true, cond_false, e4, Int.natCast_nonneg, Bool.and_self, Int.toNat_natCast, hj1, List.drop_zero, hv, true_and, wi, hlen, b1, b2, Nat.le_refl, mL_take _ hll]
      have eo : wmayR ((mL (toZ R0)).getD i []) = (decide (((toZ R0).getD i []).getD 0 0 ≥ 0) && decide (((toZ R0).getD i []).getD 0 0 ≤ 255)) := by
        rw [mL_get _ hll, wmayR_v]; rfl
      rw [← eo]
      cases ho : wmayR ((mL (toZ R0)).getD i []) with
      | false =>
        exact h2 (by rw [toZ_mW]; exact rowMay_false (by rw [mL_len]; exact hll) ho) _ _ _
      | true =>
        refine ⟨i + 1, by omega, ⟨hl, by omega, fun j hji => ?_⟩, rfl⟩
        rcases Nat.lt_succ_iff_lt_or_eq.1 hji with hji | rfl
        · exact hj j hji
        · exact ho
  · have e : i = R0.length := by omega
    subst e
    simp only [Int.ofNat_lt, Nat.lt_irrefl, decide_false, cond_false, true_and]
    rw [List.take_of_length_le (by omega)]
    exact h3 (by rw [toZ_mW]; exact rowMay_all (by rw [mL_len]; omega) (fun j hj' => hj j (by rw [mL_len] at hj'; omega)))
theorem n1_ok {R0 p0 R1 p1 R2 p2 R3 p3 : List (List D)} (hR : okZ 1 R1 = true) (hn : R1.length ≤ 5864062014635) (Q : Exit → X → Prop) (x : X) (h : sN1 R0 p0 R1 p1 R2 p2 R3 p3 Q x) : XWP Try.prog (.loop (bodyL Try.f20 1)) Q x := by
  obtain ⟨h1, h2⟩ := h
  obtain ⟨el, hw, _⟩ := okZ_spec hR
  have hl' : (toZ R1).length = R1.length := toZ_len _
  refine xwp_only [2, 3, 4, 5, 9, 10, 14, 15, 16] [3, 5, 2000000, 2000001] (xwp_post [2, 3, 4, 5, 9, 10, 14, 15, 16] [3, 5, 2000000, 2000001] ?_)
  rw [h1]
  refine xwp_nilc (kb := 5) (j := 1) (kn := 2000001) (wd := 3) rfl ?_
  refine xwp_roundH (ι := Nat) (H := hkA band bor [] []) (fn := Try.f20) (i := 1) (ts := [2, 3, 4, 5, 9, 10, 14, 15, 16]) (ks := [3, 5, 2000000, 2000001]) (hkl_ok .nil) mixed (loops_nil rfl)
    (fun i => stN1 R0 p0 R1 p1 R2 p2 R3 p3 (mZ (mL ((toZ R1).take i))) i i) (fun i => i ≤ R1.length) (fun i => R1.length - i) 0 (vN1 R0 p0 R1 p1 R2 p2 R3 p3) (vN1 R0 p0 R1 p1 R2 p2 R3 p3) (fun i hi => ?_) (Nat.zero_le _) (by kernel_rfl)
  show roundA band bor Try.prog _ _ Try.f20 1 _ _ _ _ _ _ _
  rw [eN1r]
  by_cases hl : i < R1.length
  · have wi : IntKind.wrap .i64 ((i : Int) + 1) = ((i + 1 : Nat) : Int) := wrap_nat (n := 1) (by omega)
    have hll : i < (toZ R1).length := by omega
    have hj1 : isJ [IntKind.i64] ((R1).getD i []) = true := by
      rw [el]; exact isJ_mZ (j := 0) (n := 1) hw hll (by omega)
    have hv : hdJ (R1.getD i []) = ((toZ R1).getD i []).getD 0 0 := by
      rw [show R1.getD i [] = (mZ (toZ R1)).getD i [] by rw [← el], hdJ_mZ0]
    have hlen : (mZ (mL ((toZ R1).take i))).length = i := by rw [mZ_len, mL_len, List.length_take]; omega
    have b1 : (i + 1) * 24 ≤ 140737488355328 := by omega
    have b2 : i + 1 ≤ 9223372036854775807 := by omega
    simp only [Int.ofNat_lt, hl, decide_true, cond_true, Int.natCast_nonneg, Bool.and_self, Int.toNat_natCast, hj1, List.drop_zero, hv, true_and, wi, hlen, b1, b2, Nat.le_refl, mL_take _ hll]
    exact ⟨i + 1, by omega, hl, rfl⟩
  · have e : i = R1.length := by omega
    subst e
    simp only [Int.ofNat_lt, Nat.lt_irrefl, decide_false, cond_false, true_and]
    rw [List.take_of_length_le (by omega)]
    exact h2
theorem m1_ok {R0 p0 R1 p1 R2 p2 R3 p3 : List (List D)} (hR : okZ 1 R1 = true) (hn : R1.length ≤ 5864062014635) (Q : Exit → X → Prop) (x : X) (h : sM1 R0 p0 R1 p1 R2 p2 R3 p3 Q x) : XWP Try.prog (.loop (bodyL Try.f21 1)) Q x := by
  obtain ⟨h1, h2, h3⟩ := h
  obtain ⟨el, hw, _⟩ := okZ_spec hR
  have hl' : (toZ R1).length = R1.length := toZ_len _
  refine xwp_only [1, 2, 3, 4, 5, 6] [2, 3, 5, 2000000, 2000001] (xwp_post [1, 2, 3, 4, 5, 6] [2, 3, 5, 2000000, 2000001] ?_)
  rw [h1]
  refine xwp_nilc (kb := 5) (j := 1) (kn := 2000001) (wd := 3) rfl ?_
  refine xwp_roundH (ι := Nat) (H := hkA band bor [(58, sB val8)] []) (fn := Try.f21) (i := 1) (ts := [1, 2, 3, 4, 5, 6]) (ks := [2, 3, 5, 2000000, 2000001]) (hkl_ok (.cons oRVal .nil)) mixed (loops_nil rfl)
    (fun i => stM1 R0 p0 R1 p1 R2 p2 R3 p3 (mZ (mL ((toZ R1).take i))) i 0 i) (fun i => i ≤ R1.length ∧ i ≤ 4 ∧ ∀ j, j < i → wmayR ((mL (toZ R1)).getD j []) = true) (fun i => R1.length - i) 0 (vM1 R0 p0 R1 p1 R2 p2 R3 p3) (vM1 R0 p0 R1 p1 R2 p2 R3 p3) (fun i hp => ?_) ⟨Nat.zero_le _, Nat.zero_le _, fun j hj => by omega⟩ (by kernel_rfl)
  obtain ⟨hi, h4, hj⟩ := hp
  show roundA band bor Try.prog _ _ Try.f21 1 _ _ _ _ _ _ _
  rw [eM1r]
  by_cases hl : i < R1.length
  · by_cases h4' : i = 4
    · have e4 : decide ((i : Int) ≥ 4) = true := by simp; omega
      simp only [Int.ofNat_lt, hl, decide_true, cond_true, e4, true_and]
      exact h2 (by rw [toZ_mW]; exact rowMay_long (by rw [mL_len]; omega)) _ _ _
    · have e4 : decide ((i : Int) ≥ 4) = false := by simp; omega
      have wi : IntKind.wrap .i64 ((i : Int) + 1) = ((i + 1 : Nat) : Int) := wrap_nat (n := 1) (by omega)
      have hll : i < (toZ R1).length := by omega
      have hj1 : isJ [IntKind.i64] ((R1).getD i []) = true := by
        rw [el]; exact isJ_mZ (j := 0) (n := 1) hw hll (by omega)
      have hv : hdJ (R1.getD i []) = ((toZ R1).getD i []).getD 0 0 := by
        rw [show R1.getD i [] = (mZ (toZ R1)).getD i [] by rw [← el], hdJ_mZ0]
      have hlen : (mZ (mL ((toZ R1).take i))).length = i := by rw [mZ_len, mL_len, List.length_take]; omega
      have b1 : (i + 1) * 24 ≤ 140737488355328 := by omega
      have b2 : i + 1 ≤ 9223372036854775807 := by omega
      simp only [Int.ofNat_lt, hl, decide_true, cond_true, cond_false, e4, Int.natCast_nonneg, Bool.and_self, Int.toNat_natCast, hj1, List.drop_zero, hv, true_and, wi, hlen, b1, b2, Nat.le_refl, mL_take _ hll]
      have eo : wmayR ((mL (toZ R1)).getD i []) = (decide (((toZ R1).getD i []).getD 0 0 ≥ 0) && decide (((toZ R1).getD i []).getD 0 0 ≤ 255)) := by
        rw [mL_get _ hll, wmayR_v]; rfl
      rw [← eo]
      cases ho : wmayR ((mL (toZ R1)).getD i []) with
      | false =>
        exact h2 (by rw [toZ_mW]; exact rowMay_false (by rw [mL_len]; exact hll) ho) _ _ _
      | true =>
        refine ⟨i + 1, by omega, ⟨hl, by omega, fun j hji => ?_⟩, rfl⟩
        rcases Nat.lt_succ_iff_lt_or_eq.1 hji with hji | rfl
        · exact hj j hji
        · exact ho
  · have e : i = R1.length := by omega
    subst e
    simp only [Int.ofNat_lt, Nat.lt_irrefl, decide_false, cond_false, true_and]
    rw [List.take_of_length_le (by omega)]
    exact h3 (by rw [toZ_mW]; exact rowMay_all (by rw [mL_len]; omega) (fun j hj' => hj j (by rw [mL_len] at hj'; omega)))
theorem n2_ok {R0 p0 R1 p1 R2 p2 R3 p3 : List (List D)} (hR : okZ 1 R2 = true) (hn : R2.length ≤ 5864062014635) (Q : Exit → X → Prop) (x : X) (h : sN2 R0 p0 R1 p1 R2 p2 R3 p3 Q x) : XWP Try.prog (.loop (bodyL Try.f20 1)) Q x := by
  obtain ⟨h1, h2⟩ := h
  obtain ⟨el, hw, _⟩ := okZ_spec hR
  have hl' : (toZ R2).length = R2.length := toZ_len _
  refine xwp_only [2, 3, 4, 5, 9, 10, 14, 15, 16] [3, 5, 2000000, 2000001, 2000002] (xwp_post [2, 3, 4, 5, 9, 10, 14, 15, 16] [3, 5, 2000000, 2000001, 2000002] ?_)
  rw [h1]
  refine xwp_nilc (kb := 5) (j := 2) (kn := 2000002) (wd := 3) rfl ?_
  refine xwp_roundH (ι := Nat) (H := hkA band bor [] []) (fn := Try.f20) (i := 1) (ts := [2, 3, 4, 5, 9, 10, 14, 15, 16]) (ks := [3, 5, 2000000, 2000001, 2000002]) (hkl_ok .nil) mixed (loops_nil rfl)
    (fun i => stN2 R0 p0 R1 p1 R2 p2 R3 p3 (mZ (mL ((toZ R2).take i))) i i) (fun i => i ≤ R2.length) (fun i => R2.length - i) 0 (vN2 R0 p0 R1 p1 R2 p2 R3 p3) (vN2 R0 p0 R1 p1 R2 p2 R3 p3) (fun i hi => ?_) (Nat.zero_le _) (by kernel_rfl)
  show roundA band bor Try.prog _ _ Try.f20 1 _ _ _ _ _ _ _
  rw [eN2r]
  by_cases hl : i < R2.length
  · have wi : IntKind.wrap .i64 ((i : Int) + 1) = ((i + 1 : Nat) : Int) := wrap_nat (n := 1) (by omega)
    have hll : i < (toZ R2).length := by omega
    have hj1 : isJ [IntKind.i64] ((R2).getD i []) = true := by
      rw [el]; exact isJ_mZ (j := 0) (n := 1) hw hll (by omega)
    have hv : hdJ (R2.getD i []) = ((toZ R2).getD i []).getD 0 0 := by
      rw [show R2.getD i [] = (mZ (toZ R2)).getD i [] by rw [← el], hdJ_mZ0]
    have hlen : (mZ (mL ((toZ R2).take i))).length = i := by rw [mZ_len, mL_len, List.length_take]; omega
    have b1 : (i + 1) * 24 ≤ 140737488355328 := by omega
    have b2 : i + 1 ≤ 9223372036854775807 := by omega
    simp only [Int.ofNat_lt, hl, decide_true, cond_true, Int.natCast_nonneg, Bool.and_self, Int.toNat_natCast, hj1, List.drop_zero, hv, true_and, wi, hlen, b1, b2, Nat.le_refl, mL_take _ hll]
    exact ⟨i + 1, by omega, hl, rfl⟩
  · have e : i = R2.length := by omega
    subst e
    simp only [Int.ofNat_lt, Nat.lt_irrefl, decide_false, cond_false, true_and]
    rw [List.take_of_length_le (by omega)]
    exact h2
theorem m2_ok {R0 p0 R1 p1 R2 p2 R3 p3 : List (List D)} (hR : okZ 1 R2 = true) (hn : R2.length ≤ 5864062014635) (Q : Exit → X → Prop) (x : X) (h : sM2 R0 p0 R1 p1 R2 p2 R3 p3 Q x) : XWP Try.prog (.loop (bodyL Try.f21 1)) Q x := by
  obtain ⟨h1, h2, h3⟩ := h
  obtain ⟨el, hw, _⟩ := okZ_spec hR
  have hl' : (toZ R2).length = R2.length := toZ_len _
  refine xwp_only [1, 2, 3, 4, 5, 6] [2, 3, 5, 2000000, 2000001, 2000002] (xwp_post [1, 2, 3, 4, 5, 6] [2, 3, 5, 2000000, 2000001, 2000002] ?_)
  rw [h1]
  refine xwp_nilc (kb := 5) (j := 2) (kn := 2000002) (wd := 3) rfl ?_
  refine xwp_roundH (ι := Nat) (H := hkA band bor [(58, sB val8)] []) (fn := Try.f21) (i := 1) (ts := [1, 2, 3, 4, 5, 6]) (ks := [2, 3, 5, 2000000, 2000001, 2000002]) (hkl_ok (.cons oRVal .nil)) mixed (loops_nil rfl)
    (fun i => stM2 R0 p0 R1 p1 R2 p2 R3 p3 (mZ (mL ((toZ R2).take i))) i 0 i) (fun i => i ≤ R2.length ∧ i ≤ 4 ∧ ∀ j, j < i → wmayR ((mL (toZ R2)).getD j []) = true) (fun i => R2.length - i) 0 (vM2 R0 p0 R1 p1 R2 p2 R3 p3) (vM2 R0 p0 R1 p1 R2 p2 R3 p3) (fun i hp => ?_) ⟨Nat.zero_le _, Nat.zero_le _, fun j hj => by omega⟩ (by kernel_rfl)
  obtain ⟨hi, h4, hj⟩ := hp
  show roundA band bor Try.prog _ _ Try.f21 1 _ _ _ _ _ _ _
  rw [eM2r]
  by_cases hl : i < R2.length
  · by_cases h4' : i = 4
    · have e4 : decide ((i : Int) ≥ 4) = true := by simp; omega
      simp only [Int.ofNat_lt, hl, decide_true, cond_true, e4, true_and]
      exact h2 (by rw [toZ_mW]; exact rowMay_long (by rw [mL_len]; omega)) _ _ _
    · have e4 : decide ((i : Int) ≥ 4) = false := by simp; omega
      have wi : IntKind.wrap .i64 ((i : Int) + 1) = ((i + 1 : Nat) : Int) := wrap_nat (n := 1) (by omega)
      have hll : i < (toZ R2).length := by omega
      have hj1 : isJ [IntKind.i64] ((R2).getD i []) = true := by
        rw [el]; exact isJ_mZ (j := 0) (n := 1) hw hll (by omega)
      have hv : hdJ (R2.getD i []) = ((toZ R2).getD i []).getD 0 0 := by
        rw [show R2.getD i [] = (mZ (toZ R2)).getD i [] by rw [← el], hdJ_mZ0]
      have hlen : (mZ (mL ((toZ R2).take i))).length = i := by rw [mZ_len, mL_len, List.length_take]; omega
      have b1 : (i + 1) * 24 ≤ 140737488355328 := by omega
      have b2 : i + 1 ≤ 9223372036854775807 := by omega
      simp only [Int.ofNat_lt, hl, decide_true, cond_true, cond_false, e4, Int.natCast_nonneg, Bool.and_self, Int.toNat_natCast, hj1, List.drop_zero, hv, true_and, wi, hlen, b1, b2, Nat.le_refl, mL_take _ hll]
      have eo : wmayR ((mL (toZ R2)).getD i []) = (decide (((toZ R2).getD i []).getD 0 0 ≥ 0) && decide (((toZ R2).getD i []).getD 0 0 ≤ 255)) := by
        rw [mL_get _ hll, wmayR_v]; rfl
      rw [← eo]
      cases ho : wmayR ((mL (toZ R2)).getD i []) with
      | false =>
        exact h2 (by rw [toZ_mW]; exact rowMay_false (by rw [mL_len]; exact hll) ho) _ _ _
      | true =>
        refine ⟨i + 1, by omega, ⟨hl, by omega, fun j hji => ?_⟩, rfl⟩
        rcases Nat.lt_succ_iff_lt_or_eq.1 hji with hji | rfl
        · exact hj j hji
        · exact ho
  · have e : i = R2.length := by omega
    subst e
    simp only [Int.ofNat_lt, Nat.lt_irrefl, decide_false, cond_false, true_and]
    rw [List.take_of_length_le (by omega)]
    exact h3 (by rw [toZ_mW]; exact rowMay_all (by rw [mL_len]; omega) (fun j hj' => hj j (by rw [mL_len] at hj'; omega)))
theorem n3_ok {R0 p0 R1 p1 R2 p2 R3 p3 : List (List D)} (hR : okZ 1 R3 = true) (hn : R3.length ≤ 5864062014635) (Q : Exit → X → Prop) (x : X) (h : sN3 R0 p0 R1 p1 R2 p2 R3 p3 Q x) : XWP Try.prog (.loop (bodyL Try.f20 1)) Q x := by
  obtain ⟨h1, h2⟩ := h
  obtain ⟨el, hw, _⟩ := okZ_spec hR
  have hl' : (toZ R3).length = R3.length := toZ_len _
  refine xwp_only [2, 3, 4, 5, 9, 10, 14, 15, 16] [3, 5, 2000000, 2000001, 2000002, 2000003] (xwp_post [2, 3, 4, 5, 9, 10, 14, 15, 16] [3, 5, 2000000, 2000001, 2000002, 2000003] ?_)
  rw [h1]
  refine xwp_nilc (kb := 5) (j := 3) (kn := 2000003) (wd := 3) rfl ?_
  refine xwp_roundH (ι := Nat) (H := hkA band bor [] []) (fn := Try.f20) (i := 1) (ts := [2, 3, 4, 5, 9, 10, 14, 15, 16]) (ks := [3, 5, 2000000, 2000001, 2000002, 2000003]) (hkl_ok .nil) mixed (loops_nil rfl)
    (fun i => stN3 R0 p0 R1 p1 R2 p2 R3 p3 (mZ (mL ((toZ R3).take i))) i i) (fun i => i ≤ R3.length) (fun i => R3.length - i) 0 (vN3 R0 p0 R1 p1 R2 p2 R3 p3) (vN3 R0 p0 R1 p1 R2 p2 R3 p3) (fun i hi => ?_) (Nat.zero_le _) (by kernel_rfl)
  show roundA band bor Try.prog _ _ Try.f20 1 _ _ _ _ _ _ _
  rw [eN3r]
  by_cases hl : i < R3.length
  · have wi : IntKind.wrap .i64 ((i : Int) + 1) = ((i + 1 : Nat) : Int) := wrap_nat (n := 1) (by omega)
    have hll : i < (toZ R3).length := by omega
    have hj1 : isJ [IntKind.i64] ((R3).getD i []) = true := by
      rw [el]; exact isJ_mZ (j := 0) (n := 1) hw hll (by omega)
    have hv : hdJ (R3.getD i []) = ((toZ R3).getD i []).getD 0 0 := by
      rw [show R3.getD i [] = (mZ (toZ R3)).getD i [] by rw [← el], hdJ_mZ0]
    have hlen : (mZ (mL ((toZ R3).take i))).length = i := by rw [mZ_len, mL_len, List.length_take]; omega
    have b1 : (i + 1) * 24 ≤ 140737488355328 := by omega
    have b2 : i + 1 ≤ 9223372036854775807 := by omega
    simp only [Int.ofNat_lt, hl, decide_true, cond_true, Int.natCast_nonneg, Bool.and_self, Int.toNat_natCast, hj1, List.drop_zero, hv, true_and, wi, hlen, b1, b2, Nat.le_refl, mL_take _ hll]
    exact ⟨i + 1, by omega, hl, rfl⟩
  · have e : i = R3.length := by omega
    subst e
    simp only [Int.ofNat_lt, Nat.lt_irrefl, decide_false, cond_false, true_and]
    rw [List.take_of_length_le (by omega)]
    exact h2
theorem m3_ok {R0 p0 R1 p1 R2 p2 R3 p3 : List (List D)} (hR : okZ 1 R3 = true) (hn : R3.length ≤ 5864062014635) (Q : Exit → X → Prop) (x : X) (h : sM3 R0 p0 R1 p1 R2 p2 R3 p3 Q x) : XWP Try.prog (.loop (bodyL Try.f21 1)) Q x := by
  obtain ⟨h1, h2, h3⟩ := h
  obtain ⟨el, hw, _⟩ := okZ_spec hR
  have hl' : (toZ R3).length = R3.length := toZ_len _
  refine xwp_only [1, 2, 3, 4, 5, 6] [2, 3, 5, 2000000, 2000001, 2000002, 2000003] (xwp_post [1, 2, 3, 4, 5, 6] [2, 3, 5, 2000000, 2000001, 2000002, 2000003] ?_)
  rw [h1]
  refine xwp_nilc (kb := 5) (j := 3) (kn := 2000003) (wd := 3) rfl ?_
  refine xwp_roundH (ι := Nat) (H := hkA band bor [(58, sB val8)] []) (fn := Try.f21) (i := 1) (ts := [1, 2, 3, 4, 5, 6]) (ks := [2, 3, 5, 2000000, 2000001, 2000002, 2000003]) (hkl_ok (.cons oRVal .nil)) mixed (loops_nil rfl)
    (fun i => stM3 R0 p0 R1 p1 R2 p2 R3 p3 (mZ (mL ((toZ R3).take i))) i 0 i) (fun i => i ≤ R3.length ∧ i ≤ 4 ∧ ∀ j, j < i → wmayR ((mL (toZ R3)).getD j []) = true) (fun i => R3.length - i) 0 (vM3 R0 p0 R1 p1 R2 p2 R3 p3) (vM3 R0 p0 R1 p1 R2 p2 R3 p3) (fun i hp => ?_) ⟨Nat.zero_le _, Nat.zero_le _, fun j hj => by omega⟩ (by kernel_rfl)
  obtain ⟨hi, h4, hj⟩ := hp
  show roundA band bor Try.prog _ _ Try.f21 1 _ _ _ _ _ _ _
  rw [eM3r]
  by_cases hl : i < R3.length
  · by_cases h4' : i = 4
    · have e4 : decide ((i : Int) ≥ 4) = true := by simp; omega
      simp only [Int.ofNat_lt, hl, decide_true, cond_true, e4, true_and]
      exact h2 (by rw [toZ_mW]; exact rowMay_long (by rw [mL_len]; omega)) _ _ _
    · have e4 : decide ((i : Int) ≥ 4) = false := by simp; omega
      have wi : IntKind.wrap .i64 ((i : Int) + 1) = ((i + 1 : Nat) : Int) := wrap_nat (n := 1) (by omega)
      have hll : i < (toZ R3).length := by omega
      have hj1 : isJ [IntKind.i64] ((R3).getD i []) = true := by
        rw [el]; exact isJ_mZ (j := 0) (n := 1) hw hll (by omega)
      have hv : hdJ (R3.getD i []) = ((toZ R3).getD i []).getD 0 0 := by
        rw [show R3.getD i [] = (mZ (toZ R3)).getD i [] by rw [← el], hdJ_mZ0]
      have hlen : (mZ (mL ((toZ R3).take i))).length = i := by rw [mZ_len, mL_len, List.length_take]; omega
      have b1 : (i + 1) * 24 ≤ 140737488355328 := by omega
      have b2 : i + 1 ≤ 9223372036854775807 := by omega
      simp only [Int.ofNat_lt, hl, decide_true, cond_true, cond_false, e4, Int.natCast_nonneg, Bool.and_self, Int.toNat_natCast, hj1, List.drop_zero, hv, true_and, wi, hlen, b1, b2, Nat.le_refl, mL_take _ hll]
      have eo : wmayR ((mL (toZ R3)).getD i []) = (decide (((toZ R3).getD i []).getD 0 0 ≥ 0) && decide (((toZ R3).getD i []).getD 0 0 ≤ 255)) := by
        rw [mL_get _ hll, wmayR_v]; rfl
      rw [← eo]
      cases ho : wmayR ((mL (toZ R3)).getD i []) with
      | false =>
        exact h2 (by rw [toZ_mW]; exact rowMay_false (by rw [mL_len]; exact hll) ho) _ _ _
      | true =>
        refine ⟨i + 1, by omega, ⟨hl, by omega, fun j hji => ?_⟩, rfl⟩
        rcases Nat.lt_succ_iff_lt_or_eq.1 hji with hji | rfl
        · exact hj j hji
        · exact ho
  · have e : i = R3.length := by omega
    subst e
    simp only [Int.ofNat_lt, Nat.lt_irrefl, decide_false, cond_false, true_and]
    rw [List.take_of_length_le (by omega)]
    exact h3 (by rw [toZ_mW]; exact rowMay_all (by rw [mL_len]; omega) (fun j hj' => hj j (by rw [mL_len] at hj'; omega)))
theorem sumNew_ok {R0 p0 R1 p1 R2 p2 R3 p3 : List (List D)} (h0 : okZ 1 R0 = true) (h1 : okZ 1 R1 = true) (h2 : okZ 1 R2 = true) (h3 : okZ 1 R3 = true) (l0 : R0.length ≤ 5864062014635) (l1 : R1.length ≤ 5864062014635) (l2 : R2.length ≤ 5864062014635) (l3 : R3.length ≤ 5864062014635) (Q : Exit → X → Prop) (x : X) (h : sumNew R0 p0 R1 p1 R2 p2 R3 p3 Q x) : XWP Try.prog (.loop (bodyL Try.f20 1)) Q x := by
  obtain ⟨g, h⟩ := withI_spec h
  cases hd : decide (g = 0) with
  | true =>
    rw [hd, cond_true] at h
    exact n0_ok h0 l0 Q x h
  | false =>
    rw [hd, cond_false] at h
    cases hd : decide (g = 1) with
    | true =>
      rw [hd, cond_true] at h
      exact n1_ok h1 l1 Q x h
    | false =>
      rw [hd, cond_false] at h
      cases hd : decide (g = 2) with
      | true =>
        rw [hd, cond_true] at h
        exact n2_ok h2 l2 Q x h
      | false =>
        rw [hd, cond_false] at h
        exact n3_ok h3 l3 Q x h
theorem sumRNew_ok {R0 p0 R1 p1 R2 p2 R3 p3 : List (List D)} (h0 : okZ 1 R0 = true) (h1 : okZ 1 R1 = true) (h2 : okZ 1 R2 = true) (h3 : okZ 1 R3 = true) (l0 : R0.length ≤ 5864062014635) (l1 : R1.length ≤ 5864062014635) (l2 : R2.length ≤ 5864062014635) (l3 : R3.length ≤ 5864062014635) (Q : Exit → X → Prop) (x : X) (h : sumRNew R0 p0 R1 p1 R2 p2 R3 p3 Q x) : XWP Try.prog (.loop (bodyL Try.f21 1)) Q x := by
  obtain ⟨g, h⟩ := withI_spec h
  cases hd : decide (g = 0) with
  | true =>
    rw [hd, cond_true] at h
    exact m0_ok h0 l0 Q x h
  | false =>
    rw [hd, cond_false] at h
    cases hd : decide (g = 1) with
    | true =>
      rw [hd, cond_true] at h
      exact m1_ok h1 l1 Q x h
    | false =>
      rw [hd, cond_false] at h
      cases hd : decide (g = 2) with
      | true =>
        rw [hd, cond_true] at h
        exact m2_ok h2 l2 Q x h
      | false =>
        rw [hd, cond_false] at h
        exact m3_ok h3 l3 Q x h
def okV (R : List (List D)) : Bool := okZ 1 R && decide (R.length ≤ 5864062014635)
def okV4 (R0 R1 R2 R3 : List (List D)) : Bool := okV R0 && (okV R1 && (okV R2 && okV R3))
theorem okV4_spec {R0 R1 R2 R3 : List (List D)} (h : okV4 R0 R1 R2 R3 = true) : (okZ 1 R0 = true ∧ R0.length ≤ 5864062014635) ∧ (okZ 1 R1 = true ∧ R1.length ≤ 5864062014635) ∧ (okZ 1 R2 = true ∧ R2.length ≤ 5864062014635) ∧ (okZ 1 R3 = true ∧ R3.length ≤ 5864062014635) := by
  simpa [okV4, okV, Bool.and_eq_true] using h
def sNew : Spec := fun ds Q => match ds with | [.agg [.s 0 1 R0 p0, .s 0 1 R1 p1, .s 0 1 R2 p2, .s 0 1 R3 p3]] => cond (okV4 R0 R1 R2 R3) (cond (amay (toZ (mW R0)) (toZ (mW R1)) (toZ (mW R2)) (toZ (mW R3))) (Q (.tup [dO (mW R0) (mW R1) (mW R2) (mW R3), I 0])) (Q (.tup [dNil, I 400]))) False | _ => False
theorem oNew : SpecOK Try.prog 20 sNew := o_of Try.func20 (by kernel_rfl) rfl fun ds Q h => by
  unfold sNew at h; split at h
  · rename_i R0 p0 R1 p1 R2 p2 R3 p3
    obtain ⟨h1, h2⟩ := cond_P h
    obtain ⟨⟨a0, l0⟩, ⟨a1, l1⟩, ⟨a2, l2⟩, ⟨a3, l3⟩⟩ := okV4_spec h1
    have z0 := okZ_mW a0
    have z1 := okZ_mW a1
    have z2 := okZ_mW a2
    have z3 := okZ_mW a3
    have hz : okA (mW R0) (mW R1) (mW R2) (mW R3) = true := by simp [okA, z0, z1, z2, z3]
    have hL : LoopsOK Try.prog (hkl [(28, sAMay)] [(6, sumNew R0 p0 R1 p1 R2 p2 R3 p3)]) (bodyOf Try.f20) := loops2 rfl (by kernel_rfl) (by kernel_rfl) (sumNew_ok a0 a1 a2 a3 l0 l1 l2 l3)
    have tk : ∀ R : List (List D), List.take R.length (mW R) = mW R := fun R => List.take_of_length_le (by rw [mW_len]; omega)
    cases hm : amay (toZ (mW R0)) (toZ (mW R1)) (toZ (mW R2)) (toZ (mW R3)) with
    | false =>
      rw [hm] at h2
      refine ⟨_, ct_askL (l := [(28, sAMay)]) (m := [(6, sumNew R0 p0 R1 p1 R2 p2 R3 p3)]) (.cons oAMay .nil) mixed hL Try.func20 rfl rfl rfl ?_, rfl, rfl, h2⟩
      rw [eNew]
      simp only [Nat.zero_add, mW_len, Nat.le_refl, decide_true, cond_true, cut_all (mW_len _), hz, hm, Bool.not_false, true_and]
    | true =>
      rw [hm] at h2
      refine ⟨_, ct_askL (l := [(28, sAMay)]) (m := [(6, sumNew R0 p0 R1 p1 R2 p2 R3 p3)]) (.cons oAMay .nil) mixed hL Try.func20 rfl rfl rfl ?_, pure_put z0 z1 z2 z3 _, rfl, h2⟩
      rw [eNew]
      simp only [Nat.zero_add, mW_len, Nat.le_refl, decide_true, cond_true, cond_false, cut_all (mW_len _), hz, hm, Bool.not_true, true_and, keeps_of (allV_ok z0), keeps_of (allV_ok z1), keeps_of (allV_ok z2), keeps_of (allV_ok z3), Bool.and_self, tk, Nat.sub_self, List.take_zero]
  · exact h.elim
theorem oRNew : SpecOK Try.prog 21 sNew := o_of Try.func21 (by kernel_rfl) rfl fun ds Q h => by
  unfold sNew at h; split at h
  · rename_i R0 p0 R1 p1 R2 p2 R3 p3
    obtain ⟨h1, h2⟩ := cond_P h
    obtain ⟨⟨a0, l0⟩, ⟨a1, l1⟩, ⟨a2, l2⟩, ⟨a3, l3⟩⟩ := okV4_spec h1
    have z0 := okZ_mW a0
    have z1 := okZ_mW a1
    have z2 := okZ_mW a2
    have z3 := okZ_mW a3
    have hz : okA (mW R0) (mW R1) (mW R2) (mW R3) = true := by simp [okA, z0, z1, z2, z3]
    have hL : LoopsOK Try.prog (hkl [(58, sB val8)] [(6, sumRNew R0 p0 R1 p1 R2 p2 R3 p3)]) (bodyOf Try.f21) := loops2 rfl (by kernel_rfl) (by kernel_rfl) (sumRNew_ok a0 a1 a2 a3 l0 l1 l2 l3)
    have tk : ∀ R : List (List D), List.take R.length (mW R) = mW R := fun R => List.take_of_length_le (by rw [mW_len]; omega)
    cases hm : amay (toZ (mW R0)) (toZ (mW R1)) (toZ (mW R2)) (toZ (mW R3)) with
    | false =>
      rw [hm] at h2
      refine ⟨_, ct_askL (l := [(58, sB val8)]) (m := [(6, sumRNew R0 p0 R1 p1 R2 p2 R3 p3)]) (.cons oRVal .nil) mixed hL Try.func21 rfl rfl rfl ?_, rfl, rfl, h2⟩
      rw [eRNew]
      cases q0 : rowMay (toZ (mW R0)) with
      | false => exact ⟨rfl, fun _ _ _ _ => rfl, fun e => (nomatch e)⟩
      | true =>
        refine ⟨rfl, fun e => (nomatch e), fun _ => ?_⟩
        cases q1 : rowMay (toZ (mW R1)) with
        | false => exact ⟨rfl, fun _ _ _ _ => rfl, fun e => (nomatch e)⟩
        | true =>
          refine ⟨rfl, fun e => (nomatch e), fun _ => ?_⟩
          cases q2 : rowMay (toZ (mW R2)) with
          | false => exact ⟨rfl, fun _ _ _ _ => rfl, fun e => (nomatch e)⟩
          | true =>
            refine ⟨rfl, fun e => (nomatch e), fun _ => ?_⟩
            cases q3 : rowMay (toZ (mW R3)) with
            | false => exact ⟨rfl, fun _ _ _ _ => rfl, fun e => (nomatch e)⟩
            | true => rw [amay, q0, q1, q2, q3] at hm; cases hm
    | true =>
      rw [hm] at h2
      refine ⟨_, ct_askL (l := [(58, sB val8)]) (m := [(6, sumRNew R0 p0 R1 p1 R2 p2 R3 p3)]) (.cons oRVal .nil) mixed hL Try.func21 rfl rfl rfl ?_, pure_put z0 z1 z2 z3 _, rfl, h2⟩
      rw [eRNew]
      simp only [amay, Bool.and_eq_true] at hm
      obtain ⟨q0, q1, q2, q3⟩ := hm
      simp only [q0, q1, q2, q3, Bool.true_eq_false, false_implies, true_implies, true_and, mW_len, Nat.le_refl, decide_true, cond_true, keeps_of (allV_ok z0), keeps_of (allV_ok z1), keeps_of (allV_ok z2), keeps_of (allV_ok z3), Bool.and_self, tk, Nat.sub_self, List.take_zero]
  · exact h.elim
/-! ### spoilt -/
def sSpoilA : Spec := fun ds Q => match ds with
  | [.agg [.s 1 3 R0 p0, .s 1 3 R1 p1, .s 1 3 R2 p2, .s 1 3 R3 p3]] => cond (okZ 3 (R0 ++ p0) && (okZ 3 (R1 ++ p1) && (okZ 3 (R2 ++ p2) && okZ 3 (R3 ++ p3)))) (Q (.tup [])) False
  | [.agg [.v (.slice none 0 0), .v (.slice none 0 0), .v (.slice none 0 0), .v (.slice none 0 0)]] => Q (.tup [])
  | _ => False
def gA : Hooks := { hkA band bor [(68, sSpoilWords)] [] with give := fun _ => true }
theorem gA_ok : CallsOK Try.prog gA := hkl_ok (m := []) (.cons oSpoilWords .nil)
def askGA (args : List DV) (K : DV → Prop) : Prop := evp Try.prog gA 200 (bodyOf Try.f30) (finX Try.prog Try.f30 K) (entryX Try.f30.ntmps args)
theorem eSpoilA (R0 p0 R1 p1 R2 p2 R3 p3 : List (List D)) (K : DV → Prop) : (askGA [.agg [.s 1 3 R0 p0, .s 1 3 R1 p1, .s 1 3 R2 p2, .s 1 3 R3 p3]] K) = (bif decide (List.length R0 ≤ List.length (R0 ++ p0)) && List.all (R0 ++ p0) fun r => List.all r D.keeps then bif allV (R0 ++ p0) then bif okZ (3) (List.take (List.length R0) (R0 ++ p0) ++ List.take (List.length R0 + List.length p0 - List.length R0) (List.drop (List.length R0) (R0 ++ p0))) then bif decide (List.length R1 ≤ List.length (R1 ++ p1)) && List.all (R1 ++ p1) fun r => List.all r D.keeps then bif allV (R1 ++ p1) then bif okZ (3) (List.take (List.length R1) (R1 ++ p1) ++ List.take (List.length R1 + List.length p1 - List.length R1) (List.drop (List.length R1) (R1 ++ p1))) then bif decide (List.length R2 ≤ List.length (R2 ++ p2)) && List.all (R2 ++ p2) fun r => List.all r D.keeps then bif allV (R2 ++ p2) then bif okZ (3) (List.take (List.length R2) (R2 ++ p2) ++ List.take (List.length R2 + List.length p2 - List.length R2) (List.drop (List.length R2) (R2 ++ p2))) then bif decide (List.length R3 ≤ List.length (R3 ++ p3)) && List.all (R3 ++ p3) fun r => List.all r D.keeps then bif allV (R3 ++ p3) then bif okZ (3) (List.take (List.length R3) (R3 ++ p3) ++ List.take (List.length R3 + List.length p3 - List.length R3) (List.drop (List.length R3) (R3 ++ p3))) then K (DV.tup []) else False else False else False else False else False else False else False else False else False else False else False else False) := by kernel_rfl
theorem eSpoilA0 (K : DV → Prop) : (askGA [dNil] K) = (K (DV.tup [])) := by kernel_rfl
theorem oSpoilA : SpecOK Try.prog 30 sSpoilA := o_of Try.func30 (by kernel_rfl) rfl fun ds Q h => by
  unfold sSpoilA at h; split at h
  · rename_i R0 p0 R1 p1 R2 p2 R3 p3
    obtain ⟨h1, h2⟩ := cond_P h
    simp only [Bool.and_eq_true] at h1
    obtain ⟨a0, a1, a2, a3⟩ := h1
    refine ⟨_, ct_of_evp gA_ok mixed 200 Try.func30 rfl (fun b hb s hs => by cases hs) (Nat.le_of_ble_eq_true rfl) (by simp [DV.fit32, DV.width]) ?_, rfl, rfl, h2⟩
    show askGA _ _
    rw [eSpoilA]
    have kk : ∀ R p : List (List D), okZ 3 (R ++ p) = true → okZ 3 (List.take R.length (R ++ p) ++ List.take (R.length + p.length - R.length) (List.drop R.length (R ++ p))) = true := fun R p h => by
      have : List.take R.length (R ++ p) ++ List.take (R.length + p.length - R.length) (List.drop R.length (R ++ p)) = R ++ p := by simp
      rw [this]; exact h
    have le : ∀ R p : List (List D), R.length ≤ (R ++ p).length := fun R p => by simp
    simp only [kk _ _ a0, kk _ _ a1, kk _ _ a2, kk _ _ a3, le, allV_ok a0, allV_ok a1, allV_ok a2, allV_ok a3, keeps_of (allV_ok a0), keeps_of (allV_ok a1), keeps_of (allV_ok a2), keeps_of (allV_ok a3), decide_true, Bool.and_self, cond_true]
  · refine ⟨_, ct_of_evp gA_ok mixed 200 Try.func30 rfl (fun b hb s hs => by cases hs) (Nat.le_of_ble_eq_true rfl) rfl ?_, rfl, rfl, h⟩
    show askGA _ _
    rw [eSpoilA0]
  · exact h.elim
end Vm