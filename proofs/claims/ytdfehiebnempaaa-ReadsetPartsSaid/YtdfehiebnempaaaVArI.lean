/- What the functions of this text do, told by an interpreter that is proved right (YtdfehiebnempaaaVA to VD). My own work. -/
import Derived.Test.YtdfehiebnempaaaVArG
namespace Vm
open Go Go.Proofs
set_option linter.unusedSimpArgs false
set_option linter.unusedVariables false
set_option maxRecDepth 100000
/-! ### ArenaNew -/
def st6 (R0 p0 R1 p1 R2 p2 R3 p3 P0 P1 P2 P3 : List (List D)) (g i : Int) (p : Bool) : X := ⟨mkT 57 [(1, .c (.rp 2 0 4 0 0)), (2, ab p), (3, .c (.rp 4 0 4 0 0)), (5, ai g), (6, ai i)], [(2, .bx 0 4 [.d (.s 0 1 R0 p0), .d (.s 0 1 R1 p1), .d (.s 0 1 R2 p2), .d (.s 0 1 R3 p3)]), (12003, .sl 0 3 (P3 ++ [])), (12002, .sl 0 3 (P2 ++ [])), (12001, .sl 0 3 (P1 ++ [])), (12000, .sl 0 3 (P0 ++ [])), (4, .bx 0 4 [.rs 12000 0 3 0 P0.length (P0.length + 0), .rs 12001 0 3 0 P1.length (P1.length + 0), .rs 12002 0 3 0 P2.length (P2.length + 0), .rs 12003 0 3 0 P3.length (P3.length + 0)])], []⟩
def v6 (R0 p0 R1 p1 R2 p2 R3 p3 P0 P1 P2 P3 : List (List D)) (g : Int) (y : X) : X := st6 R0 p0 R1 p1 R2 p2 R3 p3 P0 P1 P2 P3 g (slotI y 6) (slotB y 2)
theorem e6_0r (R0 p0 R1 p1 R2 p2 R3 p3 P0 P1 P2 P3 : List (List D)) (i : Int) (p : Bool) (N : X → Prop) (E : Exit → X → Prop) : (roundA band bor Try.prog [] [] Try.f6 1 [1, 2, 3, 5, 6] [2, 4, 12000, 12001, 12002, 12003] (v6 R0 p0 R1 p1 R2 p2 R3 p3 P0 P1 P2 P3 0) (v6 R0 p0 R1 p1 R2 p2 R3 p3 P0 P1 P2 P3 0) N E (st6 R0 p0 R1 p1 R2 p2 R3 p3 P0 P1 P2 P3 0 i p)) = (bif decide (i < @Nat.cast Int _ (List.length P0)) then bif decide (0 ≤ i) && decide (i < @Nat.cast Int _ (List.length P0)) then bif decide (addN (0) (Int.toNat i) < List.length (P0 ++ [])) then bif isJ [IntKind.i64, IntKind.i64, IntKind.i64] (List.drop (0) (List.getD (P0 ++ []) (addN (0) (Int.toNat i)) [])) then bif decide (0 ≤ i) && decide (i < @Nat.cast Int _ (List.length R0)) then bif isJ [IntKind.i64] (List.drop (0) (List.getD R0 (Int.toNat i) [])) then bif !eqI [hdJ (List.drop (0) (List.getD (P0 ++ []) (addN (0) (Int.toNat i)) [])), hdJ (List.tail (List.drop (0) (List.getD (P0 ++ []) (addN (0) (Int.toNat i)) []))), hdJ (List.tail (List.tail (List.drop (0) (List.getD (P0 ++ []) (addN (0) (Int.toNat i)) []))))] [hdJ (List.drop (0) (List.getD R0 (Int.toNat i) [])), 0, 0] then st6 R0 p0 R1 p1 R2 p2 R3 p3 P0 P1 P2 P3 (0) i false = st6 R0 p0 R1 p1 R2 p2 R3 p3 P0 P1 P2 P3 (0) i false ∧ E Exit.ret (st6 R0 p0 R1 p1 R2 p2 R3 p3 P0 P1 P2 P3 (0) i false) else st6 R0 p0 R1 p1 R2 p2 R3 p3 P0 P1 P2 P3 (0) (IntKind.wrap IntKind.i64 (i + 1)) p = st6 R0 p0 R1 p1 R2 p2 R3 p3 P0 P1 P2 P3 (0) (IntKind.wrap IntKind.i64 (i + 1)) p ∧ N (st6 R0 p0 R1 p1 R2 p2 R3 p3 P0 P1 P2 P3 (0) (IntKind.wrap IntKind.i64 (i + 1)) p) else False else False else False else False else False else st6 R0 p0 R1 p1 R2 p2 R3 p3 P0 P1 P2 P3 (0) i p = st6 R0 p0 R1 p1 R2 p2 R3 p3 P0 P1 P2 P3 (0) i p ∧ E (Exit.exit (2)) (st6 R0 p0 R1 p1 R2 p2 R3 p3 P0 P1 P2 P3 (0) i p)) := by kernel_rfl
def s6_0 (R0 p0 R1 p1 R2 p2 R3 p3 P0 P1 P2 P3 : List (List D)) : LSum := fun Q x => x.only [1, 2, 3, 5, 6] [2, 4, 12000, 12001, 12002, 12003] = st6 R0 p0 R1 p1 R2 p2 R3 p3 P0 P1 P2 P3 0 0 false ∧ P0 = mW R0 ∧ Q (.exit 2) (st6 R0 p0 R1 p1 R2 p2 R3 p3 P0 P1 P2 P3 0 R0.length false)
theorem e6_1r (R0 p0 R1 p1 R2 p2 R3 p3 P0 P1 P2 P3 : List (List D)) (i : Int) (p : Bool) (N : X → Prop) (E : Exit → X → Prop) : (roundA band bor Try.prog [] [] Try.f6 1 [1, 2, 3, 5, 6] [2, 4, 12000, 12001, 12002, 12003] (v6 R0 p0 R1 p1 R2 p2 R3 p3 P0 P1 P2 P3 1) (v6 R0 p0 R1 p1 R2 p2 R3 p3 P0 P1 P2 P3 1) N E (st6 R0 p0 R1 p1 R2 p2 R3 p3 P0 P1 P2 P3 1 i p)) = (bif decide (i < @Nat.cast Int _ (List.length P1)) then bif decide (0 ≤ i) && decide (i < @Nat.cast Int _ (List.length P1)) then bif decide (addN (0) (Int.toNat i) < List.length (P1 ++ [])) then bif isJ [IntKind.i64, IntKind.i64, IntKind.i64] (List.drop (0) (List.getD (P1 ++ []) (addN (0) (Int.toNat i)) [])) then bif decide (0 ≤ i) && decide (i < @Nat.cast Int _ (List.length R1)) then bif isJ [IntKind.i64] (List.drop (0) (List.getD R1 (Int.toNat i) [])) then bif !eqI [hdJ (List.drop (0) (List.getD (P1 ++ []) (addN (0) (Int.toNat i)) [])), hdJ (List.tail (List.drop (0) (List.getD (P1 ++ []) (addN (0) (Int.toNat i)) []))), hdJ (List.tail (List.tail (List.drop (0) (List.getD (P1 ++ []) (addN (0) (Int.toNat i)) []))))] [hdJ (List.drop (0) (List.getD R1 (Int.toNat i) [])), 0, 0] then st6 R0 p0 R1 p1 R2 p2 R3 p3 P0 P1 P2 P3 (1) i false = st6 R0 p0 R1 p1 R2 p2 R3 p3 P0 P1 P2 P3 (1) i false ∧ E Exit.ret (st6 R0 p0 R1 p1 R2 p2 R3 p3 P0 P1 P2 P3 (1) i false) else st6 R0 p0 R1 p1 R2 p2 R3 p3 P0 P1 P2 P3 (1) (IntKind.wrap IntKind.i64 (i + 1)) p = st6 R0 p0 R1 p1 R2 p2 R3 p3 P0 P1 P2 P3 (1) (IntKind.wrap IntKind.i64 (i + 1)) p ∧ N (st6 R0 p0 R1 p1 R2 p2 R3 p3 P0 P1 P2 P3 (1) (IntKind.wrap IntKind.i64 (i + 1)) p) else False else False else False else False else False else st6 R0 p0 R1 p1 R2 p2 R3 p3 P0 P1 P2 P3 (1) i p = st6 R0 p0 R1 p1 R2 p2 R3 p3 P0 P1 P2 P3 (1) i p ∧ E (Exit.exit (2)) (st6 R0 p0 R1 p1 R2 p2 R3 p3 P0 P1 P2 P3 (1) i p)) := by kernel_rfl
def s6_1 (R0 p0 R1 p1 R2 p2 R3 p3 P0 P1 P2 P3 : List (List D)) : LSum := fun Q x => x.only [1, 2, 3, 5, 6] [2, 4, 12000, 12001, 12002, 12003] = st6 R0 p0 R1 p1 R2 p2 R3 p3 P0 P1 P2 P3 1 0 false ∧ P1 = mW R1 ∧ Q (.exit 2) (st6 R0 p0 R1 p1 R2 p2 R3 p3 P0 P1 P2 P3 1 R1.length false)
theorem e6_2r (R0 p0 R1 p1 R2 p2 R3 p3 P0 P1 P2 P3 : List (List D)) (i : Int) (p : Bool) (N : X → Prop) (E : Exit → X → Prop) : (roundA band bor Try.prog [] [] Try.f6 1 [1, 2, 3, 5, 6] [2, 4, 12000, 12001, 12002, 12003] (v6 R0 p0 R1 p1 R2 p2 R3 p3 P0 P1 P2 P3 2) (v6 R0 p0 R1 p1 R2 p2 R3 p3 P0 P1 P2 P3 2) N E (st6 R0 p0 R1 p1 R2 p2 R3 p3 P0 P1 P2 P3 2 i p)) = (bif decide (i < @Nat.cast Int _ (List.length P2)) then bif decide (0 ≤ i) && decide (i < @Nat.cast Int _ (List.length P2)) then bif decide (addN (0) (Int.toNat i) < List.length (P2 ++ [])) then bif isJ [IntKind.i64, IntKind.i64, IntKind.i64] (List.drop (0) (List.getD (P2 ++ []) (addN (0) (Int.toNat i)) [])) then bif decide (0 ≤ i) && decide (i < @Nat.cast Int _ (List.length R2)) then bif isJ [IntKind.i64] (List.drop (0) (List.getD R2 (Int.toNat i) [])) then bif !eqI [hdJ (List.drop (0) (List.getD (P2 ++ []) (addN (0) (Int.toNat i)) [])), hdJ (List.tail (List.drop (0) (List.getD (P2 ++ []) (addN (0) (Int.toNat i)) []))), hdJ (List.tail (List.tail (List.drop (0) (List.getD (P2 ++ []) (addN (0) (Int.toNat i)) []))))] [hdJ (List.drop (0) (List.getD R2 (Int.toNat i) [])), 0, 0] then st6 R0 p0 R1 p1 R2 p2 R3 p3 P0 P1 P2 P3 (2) i false = st6 R0 p0 R1 p1 R2 p2 R3 p3 P0 P1 P2 P3 (2) i false ∧ E Exit.ret (st6 R0 p0 R1 p1 R2 p2 R3 p3 P0 P1 P2 P3 (2) i false) else st6 R0 p0 R1 p1 R2 p2 R3 p3 P0 P1 P2 P3 (2) (IntKind.wrap IntKind.i64 (i + 1)) p = st6 R0 p0 R1 p1 R2 p2 R3 p3 P0 P1 P2 P3 (2) (IntKind.wrap IntKind.i64 (i + 1)) p ∧ N (st6 R0 p0 R1 p1 R2 p2 R3 p3 P0 P1 P2 P3 (2) (IntKind.wrap IntKind.i64 (i + 1)) p) else False else False else False else False else False else st6 R0 p0 R1 p1 R2 p2 R3 p3 P0 P1 P2 P3 (2) i p = st6 R0 p0 R1 p1 R2 p2 R3 p3 P0 P1 P2 P3 (2) i p ∧ E (Exit.exit (2)) (st6 R0 p0 R1 p1 R2 p2 R3 p3 P0 P1 P2 P3 (2) i p)) := by kernel_rfl
def s6_2 (R0 p0 R1 p1 R2 p2 R3 p3 P0 P1 P2 P3 : List (List D)) : LSum := fun Q x => x.only [1, 2, 3, 5, 6] [2, 4, 12000, 12001, 12002, 12003] = st6 R0 p0 R1 p1 R2 p2 R3 p3 P0 P1 P2 P3 2 0 false ∧ P2 = mW R2 ∧ Q (.exit 2) (st6 R0 p0 R1 p1 R2 p2 R3 p3 P0 P1 P2 P3 2 R2.length false)
theorem e6_3r (R0 p0 R1 p1 R2 p2 R3 p3 P0 P1 P2 P3 : List (List D)) (i : Int) (p : Bool) (N : X → Prop) (E : Exit → X → Prop) : (roundA band bor Try.prog [] [] Try.f6 1 [1, 2, 3, 5, 6] [2, 4, 12000, 12001, 12002, 12003] (v6 R0 p0 R1 p1 R2 p2 R3 p3 P0 P1 P2 P3 3) (v6 R0 p0 R1 p1 R2 p2 R3 p3 P0 P1 P2 P3 3) N E (st6 R0 p0 R1 p1 R2 p2 R3 p3 P0 P1 P2 P3 3 i p)) = (bif decide (i < @Nat.cast Int _ (List.length P3)) then bif decide (0 ≤ i) && decide (i < @Nat.cast Int _ (List.length P3)) then bif decide (addN (0) (Int.toNat i) < List.length (P3 ++ [])) then bif isJ [IntKind.i64, IntKind.i64, IntKind.i64] (List.drop (0) (List.getD (P3 ++ []) (addN (0) (Int.toNat i)) [])) then bif decide (0 ≤ i) && decide (i < @Nat.cast Int _ (List.length R3)) then bif isJ [IntKind.i64] (List.drop (0) (List.getD R3 (Int.toNat i) [])) then bif !eqI [hdJ (List.drop (0) (List.getD (P3 ++ []) (addN (0) (Int.toNat i)) [])), hdJ (List.tail (List.drop (0) (List.getD (P3 ++ []) (addN (0) (Int.toNat i)) []))), hdJ (List.tail (List.tail (List.drop (0) (List.getD (P3 ++ []) (addN (0) (Int.toNat i)) []))))] [hdJ (List.drop (0) (List.getD R3 (Int.toNat i) [])), 0, 0] then st6 R0 p0 R1 p1 R2 p2 R3 p3 P0 P1 P2 P3 (3) i false = st6 R0 p0 R1 p1 R2 p2 R3 p3 P0 P1 P2 P3 (3) i false ∧ E Exit.ret (st6 R0 p0 R1 p1 R2 p2 R3 p3 P0 P1 P2 P3 (3) i false) else st6 R0 p0 R1 p1 R2 p2 R3 p3 P0 P1 P2 P3 (3) (IntKind.wrap IntKind.i64 (i + 1)) p = st6 R0 p0 R1 p1 R2 p2 R3 p3 P0 P1 P2 P3 (3) (IntKind.wrap IntKind.i64 (i + 1)) p ∧ N (st6 R0 p0 R1 p1 R2 p2 R3 p3 P0 P1 P2 P3 (3) (IntKind.wrap IntKind.i64 (i + 1)) p) else False else False else False else False else False else st6 R0 p0 R1 p1 R2 p2 R3 p3 P0 P1 P2 P3 (3) i p = st6 R0 p0 R1 p1 R2 p2 R3 p3 P0 P1 P2 P3 (3) i p ∧ E (Exit.exit (2)) (st6 R0 p0 R1 p1 R2 p2 R3 p3 P0 P1 P2 P3 (3) i p)) := by kernel_rfl
def s6_3 (R0 p0 R1 p1 R2 p2 R3 p3 P0 P1 P2 P3 : List (List D)) : LSum := fun Q x => x.only [1, 2, 3, 5, 6] [2, 4, 12000, 12001, 12002, 12003] = st6 R0 p0 R1 p1 R2 p2 R3 p3 P0 P1 P2 P3 3 0 false ∧ P3 = mW R3 ∧ Q (.exit 2) (st6 R0 p0 R1 p1 R2 p2 R3 p3 P0 P1 P2 P3 3 R3.length false)
def sum6 (R0 p0 R1 p1 R2 p2 R3 p3 P0 P1 P2 P3 : List (List D)) : LSum := fun Q x => withI x 5 fun g =>
  cond (decide (g = 0)) (s6_0 R0 p0 R1 p1 R2 p2 R3 p3 P0 P1 P2 P3 Q x) (cond (decide (g = 1)) (s6_1 R0 p0 R1 p1 R2 p2 R3 p3 P0 P1 P2 P3 Q x) (cond (decide (g = 2)) (s6_2 R0 p0 R1 p1 R2 p2 R3 p3 P0 P1 P2 P3 Q x) (s6_3 R0 p0 R1 p1 R2 p2 R3 p3 P0 P1 P2 P3 Q x)))
def NP (R0 R1 R2 R3 R : List (List D)) : List (List D) := pO (nokA R0 R1 R2 R3) (mW R)
theorem sNewB_N : sNewB = fun ds Q => match ds with | [.agg [.s 0 1 R0 p0, .s 0 1 R1 p1, .s 0 1 R2 p2, .s 0 1 R3 p3]] => cond (okV4 R0 R1 R2 R3) (Q (.tup [dO (NP R0 R1 R2 R3 R0) (NP R0 R1 R2 R3 R1) (NP R0 R1 R2 R3 R2) (NP R0 R1 R2 R3 R3), I (pe (nokA R0 R1 R2 R3))])) False | _ => False := rfl
def sNewN : Spec := fun ds Q => match ds with | [.agg [.s 0 1 R0 p0, .s 0 1 R1 p1, .s 0 1 R2 p2, .s 0 1 R3 p3]] => cond (okV4 R0 R1 R2 R3) (Q (.tup [dO (NP R0 R1 R2 R3 R0) (NP R0 R1 R2 R3 R1) (NP R0 R1 R2 R3 R2) (NP R0 R1 R2 R3 R3), I (pe (nokA R0 R1 R2 R3))])) False | _ => False
theorem oNewN : SpecOK Try.prog 20 sNewN := by
  have := oNewB
  rw [sNewB_N] at this
  exact this
theorem e6 (R0 p0 R1 p1 R2 p2 R3 p3 : List (List D)) (K : DV → Prop) : (askL Try.prog [(20, sNewN), (26, sSameA), (27, sI), (28, sAMay), (31, sT)] [(12, sum6 R0 p0 R1 p1 R2 p2 R3 p3 (NP R0 R1 R2 R3 R0) (NP R0 R1 R2 R3 R1) (NP R0 R1 R2 R3 R2) (NP R0 R1 R2 R3 R3))] Try.f6 [dV R0 p0 R1 p1 R2 p2 R3 p3] K) = (bif okV4 R0 R1 R2 R3 then bif pe (nokA R0 R1 R2 R3) != 0 then bif decide (0 + List.length (NP R0 R1 R2 R3 R0) ≤ List.length (NP R0 R1 R2 R3 R0 ++ [])) then bif decide (0 + List.length (NP R0 R1 R2 R3 R1) ≤ List.length (NP R0 R1 R2 R3 R1 ++ [])) then bif decide (0 + List.length (NP R0 R1 R2 R3 R2) ≤ List.length (NP R0 R1 R2 R3 R2 ++ [])) then bif decide (0 + List.length (NP R0 R1 R2 R3 R3) ≤ List.length (NP R0 R1 R2 R3 R3 ++ [])) then bif okA (cut (NP R0 R1 R2 R3 R0 ++ []) (0) (List.length (NP R0 R1 R2 R3 R0))) (cut (NP R0 R1 R2 R3 R1 ++ []) (0) (List.length (NP R0 R1 R2 R3 R1))) (cut (NP R0 R1 R2 R3 R2 ++ []) (0) (List.length (NP R0 R1 R2 R3 R2))) (cut (NP R0 R1 R2 R3 R3 ++ []) (0) (List.length (NP R0 R1 R2 R3 R3))) && true then K (DV.c (D.v (Value.bool (decide (toZ (cut (NP R0 R1 R2 R3 R0 ++ []) (0) (List.length (NP R0 R1 R2 R3 R0))) = toZ []) && (decide (toZ (cut (NP R0 R1 R2 R3 R1 ++ []) (0) (List.length (NP R0 R1 R2 R3 R1))) = toZ []) && (decide (toZ (cut (NP R0 R1 R2 R3 R2 ++ []) (0) (List.length (NP R0 R1 R2 R3 R2))) = toZ []) && decide (toZ (cut (NP R0 R1 R2 R3 R3 ++ []) (0) (List.length (NP R0 R1 R2 R3 R3))) = toZ []))))))) else False else False else False else False else False else bif @Nat.cast Int _ (List.length (NP R0 R1 R2 R3 R0)) != @Nat.cast Int _ (List.length R0) then K (DV.c (D.v (Value.bool false))) else st6 R0 p0 R1 p1 R2 p2 R3 p3 (NP R0 R1 R2 R3 R0) (NP R0 R1 R2 R3 R1) (NP R0 R1 R2 R3 R2) (NP R0 R1 R2 R3 R3) (0) (0) false = st6 R0 p0 R1 p1 R2 p2 R3 p3 (NP R0 R1 R2 R3 R0) (NP R0 R1 R2 R3 R1) (NP R0 R1 R2 R3 R2) (NP R0 R1 R2 R3 R3) (0) (0) false ∧ NP R0 R1 R2 R3 R0 = mW R0 ∧ bif @Nat.cast Int _ (List.length (NP R0 R1 R2 R3 R1)) != @Nat.cast Int _ (List.length R1) then K (DV.c (D.v (Value.bool false))) else st6 R0 p0 R1 p1 R2 p2 R3 p3 (NP R0 R1 R2 R3 R0) (NP R0 R1 R2 R3 R1) (NP R0 R1 R2 R3 R2) (NP R0 R1 R2 R3 R3) (1) (0) false = st6 R0 p0 R1 p1 R2 p2 R3 p3 (NP R0 R1 R2 R3 R0) (NP R0 R1 R2 R3 R1) (NP R0 R1 R2 R3 R2) (NP R0 R1 R2 R3 R3) (1) (0) false ∧ NP R0 R1 R2 R3 R1 = mW R1 ∧ bif @Nat.cast Int _ (List.length (NP R0 R1 R2 R3 R2)) != @Nat.cast Int _ (List.length R2) then K (DV.c (D.v (Value.bool false))) else st6 R0 p0 R1 p1 R2 p2 R3 p3 (NP R0 R1 R2 R3 R0) (NP R0 R1 R2 R3 R1) (NP R0 R1 R2 R3 R2) (NP R0 R1 R2 R3 R3) (2) (0) false = st6 R0 p0 R1 p1 R2 p2 R3 p3 (NP R0 R1 R2 R3 R0) (NP R0 R1 R2 R3 R1) (NP R0 R1 R2 R3 R2) (NP R0 R1 R2 R3 R3) (2) (0) false ∧ NP R0 R1 R2 R3 R2 = mW R2 ∧ bif @Nat.cast Int _ (List.length (NP R0 R1 R2 R3 R3)) != @Nat.cast Int _ (List.length R3) then K (DV.c (D.v (Value.bool false))) else st6 R0 p0 R1 p1 R2 p2 R3 p3 (NP R0 R1 R2 R3 R0) (NP R0 R1 R2 R3 R1) (NP R0 R1 R2 R3 R2) (NP R0 R1 R2 R3 R3) (3) (0) false = st6 R0 p0 R1 p1 R2 p2 R3 p3 (NP R0 R1 R2 R3 R0) (NP R0 R1 R2 R3 R1) (NP R0 R1 R2 R3 R2) (NP R0 R1 R2 R3 R3) (3) (0) false ∧ NP R0 R1 R2 R3 R3 = mW R3 ∧ bif decide (0 + List.length (NP R0 R1 R2 R3 R0) ≤ List.length (NP R0 R1 R2 R3 R0 ++ [])) then bif decide (0 + List.length (NP R0 R1 R2 R3 R1) ≤ List.length (NP R0 R1 R2 R3 R1 ++ [])) then bif decide (0 + List.length (NP R0 R1 R2 R3 R2) ≤ List.length (NP R0 R1 R2 R3 R2 ++ [])) then bif decide (0 + List.length (NP R0 R1 R2 R3 R3) ≤ List.length (NP R0 R1 R2 R3 R3 ++ [])) then bif okA (cut (NP R0 R1 R2 R3 R0 ++ []) (0) (List.length (NP R0 R1 R2 R3 R0))) (cut (NP R0 R1 R2 R3 R1 ++ []) (0) (List.length (NP R0 R1 R2 R3 R1))) (cut (NP R0 R1 R2 R3 R2 ++ []) (0) (List.length (NP R0 R1 R2 R3 R2))) (cut (NP R0 R1 R2 R3 R3 ++ []) (0) (List.length (NP R0 R1 R2 R3 R3))) then K (DV.c (D.v (Value.bool (amay (toZ (cut (NP R0 R1 R2 R3 R0 ++ []) (0) (List.length (NP R0 R1 R2 R3 R0)))) (toZ (cut (NP R0 R1 R2 R3 R1 ++ []) (0) (List.length (NP R0 R1 R2 R3 R1)))) (toZ (cut (NP R0 R1 R2 R3 R2 ++ []) (0) (List.length (NP R0 R1 R2 R3 R2)))) (toZ (cut (NP R0 R1 R2 R3 R3 ++ []) (0) (List.length (NP R0 R1 R2 R3 R3)))))))) else False else False else False else False else False else False) := by kernel_rfl

theorem addN0 (i : Nat) : addN 0 i = i := by rw [addN_eq, Nat.zero_add]
theorem eqI3 (l : List (List Int)) {i : Nat} (hi : i < l.length) : eqI [(((mL l).getD i []).getD 0 0), (((mL l).getD i []).getD 1 0), (((mL l).getD i []).getD 2 0)] [(l.getD i []).getD 0 0, 0, 0] = true := by
  rw [mL_get l hi]
  exact eqI_self _
theorem l6_0 {R0 p0 R1 p1 R2 p2 R3 p3 P0 P1 P2 P3 : List (List D)} (hR : okZ 1 R0 = true) (Q : Exit → X → Prop) (x : X) (h : s6_0 R0 p0 R1 p1 R2 p2 R3 p3 P0 P1 P2 P3 Q x) : XWP Try.prog (.loop (bodyL Try.f6 1)) Q x := by
  obtain ⟨h1, hP, h2⟩ := h
  obtain ⟨el, hw, hn⟩ := okZ_spec hR
  have hl' : (toZ R0).length = R0.length := toZ_len _
  refine xwp_roundH (ι := Nat) (H := hkA band bor [] []) (fn := Try.f6) (i := 1) (ts := [1, 2, 3, 5, 6]) (ks := [2, 4, 12000, 12001, 12002, 12003]) (hkl_ok .nil) mixed (loops_nil rfl)
    (fun i => st6 R0 p0 R1 p1 R2 p2 R3 p3 P0 P1 P2 P3 0 i false) (fun i => i ≤ R0.length) (fun i => R0.length - i) 0 (v6 R0 p0 R1 p1 R2 p2 R3 p3 P0 P1 P2 P3 0) (v6 R0 p0 R1 p1 R2 p2 R3 p3 P0 P1 P2 P3 0) (fun i hi => ?_) (Nat.zero_le _) h1
  show roundA band bor Try.prog _ _ Try.f6 1 _ _ _ _ _ _ _
  rw [e6_0r]
  have hPl : P0.length = R0.length := by rw [hP, mW_len]
  by_cases hl : i < R0.length
  · have wi : IntKind.wrap .i64 ((i : Int) + 1) = ((i + 1 : Nat) : Int) := wrap_nat (n := 1) (by omega)
    have hll : i < (toZ R0).length := by omega
    have hlm : i < (mL (toZ R0)).length := by rw [mL_len]; omega
    have hj1 : isJ [IntKind.i64] ((R0).getD i []) = true := by
      rw [el]; exact isJ_mZ (j := 0) (n := 1) hw hll (by omega)
    have hv : hdJ (R0.getD i []) = ((toZ R0).getD i []).getD 0 0 := by
      rw [show R0.getD i [] = (mZ (toZ R0)).getD i [] by rw [← el], hdJ_mZ0]
    have hj2 : isJ [IntKind.i64, IntKind.i64, IntKind.i64] ((mW R0).getD i []) = true := isJ_mZ (j := 0) (n := 3) (wid_mL _) hlm (by omega)
    have e3 := eqI3 (toZ R0) hll
    rw [hP]
    simp only [mW] at hj2 ⊢
    simp only [addN0, List.append_nil, mZ_len, mL_len, hl', Int.ofNat_lt, hl, decide_true, cond_true, Int.natCast_nonneg, Bool.and_self, Int.toNat_natCast, hj1, hj2, List.drop_zero, hv, hdJ_mZ0, hdJ_mZt1, hdJ_mZt2, e3, Bool.not_true, cond_false, true_and, wi]
    exact ⟨i + 1, by omega, hl, rfl⟩
  · have e : i = R0.length := by omega
    subst e
    simp only [hPl, Int.ofNat_lt, Nat.lt_irrefl, decide_false, cond_false, true_and]
    exact h2
theorem l6_1 {R0 p0 R1 p1 R2 p2 R3 p3 P0 P1 P2 P3 : List (List D)} (hR : okZ 1 R1 = true) (Q : Exit → X → Prop) (x : X) (h : s6_1 R0 p0 R1 p1 R2 p2 R3 p3 P0 P1 P2 P3 Q x) : XWP Try.prog (.loop (bodyL Try.f6 1)) Q x := by
  obtain ⟨h1, hP, h2⟩ := h
  obtain ⟨el, hw, hn⟩ := okZ_spec hR
  have hl' : (toZ R1).length = R1.length := toZ_len _
  refine xwp_roundH (ι := Nat) (H := hkA band bor [] []) (fn := Try.f6) (i := 1) (ts := [1, 2, 3, 5, 6]) (ks := [2, 4, 12000, 12001, 12002, 12003]) (hkl_ok .nil) mixed (loops_nil rfl)
    (fun i => st6 R0 p0 R1 p1 R2 p2 R3 p3 P0 P1 P2 P3 1 i false) (fun i => i ≤ R1.length) (fun i => R1.length - i) 0 (v6 R0 p0 R1 p1 R2 p2 R3 p3 P0 P1 P2 P3 1) (v6 R0 p0 R1 p1 R2 p2 R3 p3 P0 P1 P2 P3 1) (fun i hi => ?_) (Nat.zero_le _) h1
  show roundA band bor Try.prog _ _ Try.f6 1 _ _ _ _ _ _ _
  rw [e6_1r]
  have hPl : P1.length = R1.length := by rw [hP, mW_len]
  by_cases hl : i < R1.length
  · have wi : IntKind.wrap .i64 ((i : Int) + 1) = ((i + 1 : Nat) : Int) := wrap_nat (n := 1) (by omega)
    have hll : i < (toZ R1).length := by omega
    have hlm : i < (mL (toZ R1)).length := by rw [mL_len]; omega
    have hj1 : isJ [IntKind.i64] ((R1).getD i []) = true := by
      rw [el]; exact isJ_mZ (j := 0) (n := 1) hw hll (by omega)
    have hv : hdJ (R1.getD i []) = ((toZ R1).getD i []).getD 0 0 := by
      rw [show R1.getD i [] = (mZ (toZ R1)).getD i [] by rw [← el], hdJ_mZ0]
    have hj2 : isJ [IntKind.i64, IntKind.i64, IntKind.i64] ((mW R1).getD i []) = true := isJ_mZ (j := 0) (n := 3) (wid_mL _) hlm (by omega)
    have e3 := eqI3 (toZ R1) hll
    rw [hP]
    simp only [mW] at hj2 ⊢
    simp only [addN0, List.append_nil, mZ_len, mL_len, hl', Int.ofNat_lt, hl, decide_true, cond_true, Int.natCast_nonneg, Bool.and_self, Int.toNat_natCast, hj1, hj2, List.drop_zero, hv, hdJ_mZ0, hdJ_mZt1, hdJ_mZt2, e3, Bool.not_true, cond_false, true_and, wi]
    exact ⟨i + 1, by omega, hl, rfl⟩
  · have e : i = R1.length := by omega
    subst e
    simp only [hPl, Int.ofNat_lt, Nat.lt_irrefl, decide_false, cond_false, true_and]
    exact h2
theorem l6_2 {R0 p0 R1 p1 R2 p2 R3 p3 P0 P1 P2 P3 : List (List D)} (hR : okZ 1 R2 = true) (Q : Exit → X → Prop) (x : X) (h : s6_2 R0 p0 R1 p1 R2 p2 R3 p3 P0 P1 P2 P3 Q x) : XWP Try.prog (.loop (bodyL Try.f6 1)) Q x := by
  obtain ⟨h1, hP, h2⟩ := h
  obtain ⟨el, hw, hn⟩ := okZ_spec hR
  have hl' : (toZ R2).length = R2.length := toZ_len _
  refine xwp_roundH (ι := Nat) (H := hkA band bor [] []) (fn := Try.f6) (i := 1) (ts := [1, 2, 3, 5, 6]) (ks := [2, 4, 12000, 12001, 12002, 12003]) (hkl_ok .nil) mixed (loops_nil rfl)
    (fun i => st6 R0 p0 R1 p1 R2 p2 R3 p3 P0 P1 P2 P3 2 i false) (fun i => i ≤ R2.length) (fun i => R2.length - i) 0 (v6 R0 p0 R1 p1 R2 p2 R3 p3 P0 P1 P2 P3 2) (v6 R0 p0 R1 p1 R2 p2 R3 p3 P0 P1 P2 P3 2) (fun i hi => ?_) (Nat.zero_le _) h1
  show roundA band bor Try.prog _ _ Try.f6 1 _ _ _ _ _ _ _
  rw [e6_2r]
  have hPl : P2.length = R2.length := by rw [hP, mW_len]
  by_cases hl : i < R2.length
  · have wi : IntKind.wrap .i64 ((i : Int) + 1) = ((i + 1 : Nat) : Int) := wrap_nat (n := 1) (by omega)
    have hll : i < (toZ R2).length := by omega
    have hlm : i < (mL (toZ R2)).length := by rw [mL_len]; omega
    have hj1 : isJ [IntKind.i64] ((R2).getD i []) = true := by
      rw [el]; exact isJ_mZ (j := 0) (n := 1) hw hll (by omega)
    have hv : hdJ (R2.getD i []) = ((toZ R2).getD i []).getD 0 0 := by
      rw [show R2.getD i [] = (mZ (toZ R2)).getD i [] by rw [← el], hdJ_mZ0]
    have hj2 : isJ [IntKind.i64, IntKind.i64, IntKind.i64] ((mW R2).getD i []) = true := isJ_mZ (j := 0) (n := 3) (wid_mL _) hlm (by omega)
    have e3 := eqI3 (toZ R2) hll
    rw [hP]
    simp only [mW] at hj2 ⊢
    simp only [addN0, List.append_nil, mZ_len, mL_len, hl', Int.ofNat_lt, hl, decide_true, cond_true, Int.natCast_nonneg, Bool.and_self, Int.toNat_natCast, hj1, hj2, List.drop_zero, hv, hdJ_mZ0, hdJ_mZt1, hdJ_mZt2, e3, Bool.not_true, cond_false, true_and, wi]
    exact ⟨i + 1, by omega, hl, rfl⟩
  · have e : i = R2.length := by omega
    subst e
    simp only [hPl, Int.ofNat_lt, Nat.lt_irrefl, decide_false, cond_false, true_and]
    exact h2
theorem l6_3 {R0 p0 R1 p1 R2 p2 R3 p3 P0 P1 P2 P3 : List (List D)} (hR : okZ 1 R3 = true) (Q : Exit → X → Prop) (x : X) (h : s6_3 R0 p0 R1 p1 R2 p2 R3 p3 P0 P1 P2 P3 Q x) : XWP Try.prog (.loop (bodyL Try.f6 1)) Q x := by
  obtain ⟨h1, hP, h2⟩ := h
  obtain ⟨el, hw, hn⟩ := okZ_spec hR
  have hl' : (toZ R3).length = R3.length := toZ_len _
  refine xwp_roundH (ι := Nat) (H := hkA band bor [] []) (fn := Try.f6) (i := 1) (ts := [1, 2, 3, 5, 6]) (ks := [2, 4, 12000, 12001, 12002, 12003]) (hkl_ok .nil) mixed (loops_nil rfl)
    (fun i => st6 R0 p0 R1 p1 R2 p2 R3 p3 P0 P1 P2 P3 3 i false) (fun i => i ≤ R3.length) (fun i => R3.length - i) 0 (v6 R0 p0 R1 p1 R2 p2 R3 p3 P0 P1 P2 P3 3) (v6 R0 p0 R1 p1 R2 p2 R3 p3 P0 P1 P2 P3 3) (fun i hi => ?_) (Nat.zero_le _) h1
  show roundA band bor Try.prog _ _ Try.f6 1 _ _ _ _ _ _ _
  rw [e6_3r]
  have hPl : P3.length = R3.length := by rw [hP, mW_len]
  by_cases hl : i < R3.length
  · have wi : IntKind.wrap .i64 ((i : Int) + 1) = ((i + 1 : Nat) : Int) := wrap_nat (n := 1) (by omega)
    have hll : i < (toZ R3).length := by omega
    have hlm : i < (mL (toZ R3)).length := by rw [mL_len]; omega
    have hj1 : isJ [IntKind.i64] ((R3).getD i []) = true := by
      rw [el]; exact isJ_mZ (j := 0) (n := 1) hw hll (by omega)
    have hv : hdJ (R3.getD i []) = ((toZ R3).getD i []).getD 0 0 := by
      rw [show R3.getD i [] = (mZ (toZ R3)).getD i [] by rw [← el], hdJ_mZ0]
    have hj2 : isJ [IntKind.i64, IntKind.i64, IntKind.i64] ((mW R3).getD i []) = true := isJ_mZ (j := 0) (n := 3) (wid_mL _) hlm (by omega)
    have e3 := eqI3 (toZ R3) hll
    rw [hP]
    simp only [mW] at hj2 ⊢
    simp only [addN0, List.append_nil, mZ_len, mL_len, hl', Int.ofNat_lt, hl, decide_true, cond_true, Int.natCast_nonneg, Bool.and_self, Int.toNat_natCast, hj1, hj2, List.drop_zero, hv, hdJ_mZ0, hdJ_mZt1, hdJ_mZt2, e3, Bool.not_true, cond_false, true_and, wi]
    exact ⟨i + 1, by omega, hl, rfl⟩
  · have e : i = R3.length := by omega
    subst e
    simp only [hPl, Int.ofNat_lt, Nat.lt_irrefl, decide_false, cond_false, true_and]
    exact h2
theorem sum6_ok {R0 p0 R1 p1 R2 p2 R3 p3 P0 P1 P2 P3 : List (List D)} (h0 : okZ 1 R0 = true) (h1 : okZ 1 R1 = true) (h2 : okZ 1 R2 = true) (h3 : okZ 1 R3 = true) (Q : Exit → X → Prop) (x : X) (h : sum6 R0 p0 R1 p1 R2 p2 R3 p3 P0 P1 P2 P3 Q x) : XWP Try.prog (.loop (bodyL Try.f6 1)) Q x := by
  obtain ⟨g, h⟩ := withI_spec h
  cases hd : decide (g = 0) with
  | true =>
    rw [hd, cond_true] at h
    exact l6_0 h0 Q x h
  | false =>
    rw [hd, cond_false] at h
    cases hd : decide (g = 1) with
    | true =>
      rw [hd, cond_true] at h
      exact l6_1 h1 Q x h
    | false =>
      rw [hd, cond_false] at h
      cases hd : decide (g = 2) with
      | true =>
        rw [hd, cond_true] at h
        exact l6_2 h2 Q x h
      | false =>
        rw [hd, cond_false] at h
        exact l6_3 h3 Q x h
theorem NP_ok {R0 R1 R2 R3 R : List (List D)} (h : okZ 1 R = true) : okZ 3 (NP R0 R1 R2 R3 R) = true := okZ_pO (okZ_mW h)
theorem c6 {R0 R1 R2 R3 : List (List D)} (p0 p1 p2 p3 : List (List D)) (hV : okV4 R0 R1 R2 R3 = true) : CT Try.prog 6 [dV R0 p0 R1 p1 R2 p2 R3 p3] (B true) := by
  obtain ⟨⟨a0, _⟩, ⟨a1, _⟩, ⟨a2, _⟩, ⟨a3, _⟩⟩ := okV4_spec hV
  refine ct_askL (l := [(20, sNewN), (26, sSameA), (27, sI), (28, sAMay), (31, sT)]) (m := [(12, sum6 R0 p0 R1 p1 R2 p2 R3 p3 (NP R0 R1 R2 R3 R0) (NP R0 R1 R2 R3 R1) (NP R0 R1 R2 R3 R2) (NP R0 R1 R2 R3 R3))])
    (.cons oNewN (.cons oSameA (.cons oNum (.cons oAMay (.cons oAw .nil))))) mixed (loops2 rfl (by kernel_rfl) (by kernel_rfl) (sum6_ok a0 a1 a2 a3)) Try.func6 rfl rfl rfl ?_
  rw [e6]
  have z0 := NP_ok (R0 := R0) (R1 := R1) (R2 := R2) (R3 := R3) a0
  have z1 := NP_ok (R0 := R0) (R1 := R1) (R2 := R2) (R3 := R3) a1
  have z2 := NP_ok (R0 := R0) (R1 := R1) (R2 := R2) (R3 := R3) a2
  have z3 := NP_ok (R0 := R0) (R1 := R1) (R2 := R2) (R3 := R3) a3
  have hN : ∀ R, NP R0 R1 R2 R3 R = pO (nokA R0 R1 R2 R3) (mW R) := fun _ => rfl
  simp only [hV, cond_true, List.append_nil, Nat.zero_add, Nat.le_refl, decide_true, cut_all rfl, okA_mk z0 z1 z2 z3, Bool.and_true, true_and]
  cases hk : nokA R0 R1 R2 R3 with
  | false => simp [hN, hk, pO, pe]
  | true =>
    have hm : amay (toZ (mW R0)) (toZ (mW R1)) (toZ (mW R2)) (toZ (mW R3)) = true := hk
    simp only [hN, hk, pO, pe, cond_true, mW_len, bne_self_eq_false, cond_false, true_and, hm]
end Vm