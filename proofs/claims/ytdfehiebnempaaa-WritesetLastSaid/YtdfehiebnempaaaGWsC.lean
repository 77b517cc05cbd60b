/- What the functions of this text do, told by an interpreter that is proved right (YtdfehiebnempaaaGA to GD). My own work. -/
import Derived.Test.YtdfehiebnempaaaGWsB
import Derived.Test.YtdfehiebnempaaaGD
namespace Vm
open Go Go.Proofs
set_option linter.unusedSimpArgs false
set_option linter.unusedVariables false
set_option maxRecDepth 100000
/-! ### slices.Insert -/
def hIns : Hooks := { hkl [] [] with over := fun n => Nat.beq n 99 }
theorem hIns_ok : CallsOK Try.prog hIns := ⟨fun _ _ => rfl, fun _ _ => rfl, ⟨fun _ => rfl, fun _ => rfl, fun _ => rfl⟩, fun f ds Q hq => hq.elim⟩
theorem over_ok : OverOK Try.prog 99 := by
  refine ⟨74, 4, 76, 3, Try.underlying74, fun w => run_size rfl w, fun args w => ?_⟩
  exact run_callFunc_extern Try.func99 (by kernel_rfl) (by kernel_rfl) (by kernel_rfl) (e := Extern.SlicesOverlaps.overlaps #[74, 74] #[4]) (by kernel_rfl) args w
theorem eInsG (R : List (List D)) (i : Int) (a b c : Int) (cap : Nat) (K : DV → Prop) : (evp Try.prog hIns 200 (bodyOf Try.f86) (finX Try.prog Try.f86 K) ((entryX Try.f86.ntmps [oS 3 R [], I i, oS 3 [[vI a, vI b, vI c]] []]).setT 0 (.rx 1000000 1 3 0 R.length cap))) = (bif decide (0 ≤ i) && (decide (i ≤ @Nat.cast Int _ (List.length R)) && decide (@Nat.cast Int _ (List.length R) ≤ @Nat.cast Int _ cap)) then bif Nat.beq (Int.toNat i) (OfNat.ofNat (0)) || decide (Int.toNat i + 1 ≤ cap) then ∀ (p q r : Nat), addN (0) (Int.toNat i) = p → Int.toNat (@Nat.cast Int _ (List.length R)) - Int.toNat i = q → cap - Int.toNat i = r → bif i == @Nat.cast Int _ (List.length R) then bif decide (List.length R ≤ List.length (R ++ [])) && (decide ((List.length R + 1) * 24 ≤ 140737488355328) && decide (List.length R + 1 ≤ 9223372036854775807)) then bif decide (List.length R + 1 ≤ List.length (List.take (List.length R) (R ++ []) ++ cut [[D.v (Value.int IntKind.i64 a), D.v (Value.int IntKind.i64 b), D.v (Value.int IntKind.i64 c)]] (0) (1))) && List.all (List.take (List.length R) (R ++ []) ++ cut [[D.v (Value.int IntKind.i64 a), D.v (Value.int IntKind.i64 b), D.v (Value.int IntKind.i64 c)]] (0) (1)) fun r => List.all r D.keeps then K (DV.c (D.s (1) (3) (List.take (List.length R + 1) (List.take (List.length R) (R ++ []) ++ cut [[D.v (Value.int IntKind.i64 a), D.v (Value.int IntKind.i64 b), D.v (Value.int IntKind.i64 c)]] (0) (1))) (List.take (List.length R + 1 - (List.length R + 1)) (List.drop (List.length R + 1) (List.take (List.length R) (R ++ []) ++ cut [[D.v (Value.int IntKind.i64 a), D.v (Value.int IntKind.i64 b), D.v (Value.int IntKind.i64 c)]] (0) (1)))))) else False else False else bif decide (IntKind.wrap IntKind.i64 (@Nat.cast Int _ (List.length R) + @Nat.cast Int _ (1)) > @Nat.cast Int _ cap) then bif true && (decide (0 ≤ i) && decide (i ≤ @Nat.cast Int _ cap)) then ∀ (p q r : Nat), 0 = p → Int.toNat i - 0 = q → cap - 0 = r → bif decide (p + q ≤ List.length (R ++ [])) then bif allV (cut (R ++ []) p q) then bif decide (1 ≤ IntKind.wrap IntKind.i64 (IntKind.wrap IntKind.i64 (@Nat.cast Int _ (List.length R) + @Nat.cast Int _ (1)) - i)) && (decide (r < q + Int.toNat (IntKind.wrap IntKind.i64 (IntKind.wrap IntKind.i64 (@Nat.cast Int _ (List.length R) + @Nat.cast Int _ (1)) - i))) && (decide ((q + Int.toNat (IntKind.wrap IntKind.i64 (IntKind.wrap IntKind.i64 (@Nat.cast Int _ (List.length R) + @Nat.cast Int _ (1)) - i))) * 24 ≤ 140737488355328) && decide (q + Int.toNat (IntKind.wrap IntKind.i64 (IntKind.wrap IntKind.i64 (@Nat.cast Int _ (List.length R) + @Nat.cast Int _ (1)) - i)) ≤ 9223372036854775807))) then ∀ (n : Nat) (rs : List (List D)), q + Int.toNat (IntKind.wrap IntKind.i64 (IntKind.wrap IntKind.i64 (@Nat.cast Int _ (List.length R) + @Nat.cast Int _ (1)) - i)) = n → cut (R ++ []) p q ++ List.replicate (Int.toNat (IntKind.wrap IntKind.i64 (IntKind.wrap IntKind.i64 (@Nat.cast Int _ (List.length R) + @Nat.cast Int _ (List.length [[vI a, vI b, vI c]])) - i))) (List.map D.v ((fun x => (Value.cells x).toList) (Value.agg #[Value.int IntKind.i64 (0), Value.int IntKind.i64 (0), Value.int IntKind.i64 (0)]))) = rs → bif decide (0 ≤ i) && (decide (i ≤ @Nat.cast Int _ n) && decide (@Nat.cast Int _ n ≤ @Nat.cast Int _ n)) then bif Nat.beq (Int.toNat i) (OfNat.ofNat (0)) || decide (Int.toNat i + 1 ≤ n) then ∀ (c_1 : Nat), min (1) (Int.toNat (@Nat.cast Int _ n) - Int.toNat i) = c_1 → bif decide (0 + c_1 ≤ 1) then bif allV (cut [[D.v (Value.int IntKind.i64 a), D.v (Value.int IntKind.i64 b), D.v (Value.int IntKind.i64 c)]] (0) c_1) then bif decide (addN (0) (Int.toNat i) ≤ List.length rs) && (allV rs && decide (c_1 ≤ List.length (cut [[D.v (Value.int IntKind.i64 a), D.v (Value.int IntKind.i64 b), D.v (Value.int IntKind.i64 c)]] (0) c_1))) then ∀ (rs_1 : List (List D)), List.take (addN (0) (Int.toNat i)) rs ++ (List.take c_1 (cut [[D.v (Value.int IntKind.i64 a), D.v (Value.int IntKind.i64 b), D.v (Value.int IntKind.i64 c)]] (0) c_1) ++ List.drop (addN (0) (Int.toNat i) + List.length (List.take c_1 (cut [[D.v (Value.int IntKind.i64 a), D.v (Value.int IntKind.i64 b), D.v (Value.int IntKind.i64 c)]] (0) c_1))) rs) = rs_1 → bif decide (0 ≤ IntKind.wrap IntKind.i64 (i + @Nat.cast Int _ (1))) && (decide (IntKind.wrap IntKind.i64 (i + @Nat.cast Int _ (1)) ≤ @Nat.cast Int _ n) && decide (@Nat.cast Int _ n ≤ @Nat.cast Int _ n)) then bif Nat.beq (Int.toNat (IntKind.wrap IntKind.i64 (i + @Nat.cast Int _ (1)))) (OfNat.ofNat (0)) || decide (Int.toNat (IntKind.wrap IntKind.i64 (i + @Nat.cast Int _ (1))) + 1 ≤ n) then bif decide (0 ≤ i) && (decide (i ≤ @Nat.cast Int _ (List.length R)) && decide (@Nat.cast Int _ (List.length R) ≤ @Nat.cast Int _ cap)) then bif Nat.beq (Int.toNat i) (OfNat.ofNat (0)) || decide (Int.toNat i + 1 ≤ cap) then ∀ (p q r : Nat), addN (0) (Int.toNat i) = p → Int.toNat (@Nat.cast Int _ (List.length R)) - Int.toNat i = q → cap - Int.toNat i = r → ∀ (c_2 : Nat), min q (Int.toNat (@Nat.cast Int _ n) - Int.toNat (IntKind.wrap IntKind.i64 (i + @Nat.cast Int _ (1)))) = c_2 → bif decide (p + c_2 ≤ List.length (R ++ [])) then bif allV (cut (R ++ []) p c_2) then bif decide (addN (0) (Int.toNat (IntKind.wrap IntKind.i64 (i + @Nat.cast Int _ (1)))) ≤ List.length rs_1) && (allV rs_1 && decide (c_2 ≤ List.length (cut (R ++ []) p c_2))) then ∀ (rs : List (List D)), List.take (addN (0) (Int.toNat (IntKind.wrap IntKind.i64 (i + @Nat.cast Int _ (1))))) rs_1 ++ (List.take c_2 (cut (R ++ []) p c_2) ++ List.drop (addN (0) (Int.toNat (IntKind.wrap IntKind.i64 (i + @Nat.cast Int _ (1)))) + List.length (List.take c_2 (cut (R ++ []) p c_2))) rs_1) = rs → bif decide (n ≤ List.length rs) && List.all rs fun r => List.all r D.keeps then K (DV.c (D.s (1) (3) (List.take n rs) (List.take (n - n) (List.drop n rs)))) else False else False else False else False else False else False else bif decide (0 ≤ i) && (decide (i ≤ @Nat.cast Int _ (List.length R)) && decide (@Nat.cast Int _ (List.length R) ≤ @Nat.cast Int _ cap)) then bif Nat.beq (Int.toNat i) (OfNat.ofNat (0)) || decide (Int.toNat i + 1 ≤ cap) then ∀ (p q r : Nat), addN (0) (Int.toNat i) = p → Int.toNat (@Nat.cast Int _ (List.length R)) - Int.toNat i = q → cap - Int.toNat i = r → False else False else False else False else False else False else False else False else False else False else False else False else False else bif true && (decide (0 ≤ IntKind.wrap IntKind.i64 (@Nat.cast Int _ (List.length R) + @Nat.cast Int _ (1))) && decide (IntKind.wrap IntKind.i64 (@Nat.cast Int _ (List.length R) + @Nat.cast Int _ (1)) ≤ @Nat.cast Int _ cap)) then ∀ (p q r : Nat), 0 = p → Int.toNat (IntKind.wrap IntKind.i64 (@Nat.cast Int _ (List.length R) + @Nat.cast Int _ (1))) - 0 = q → cap - 0 = r → bif decide (0 ≤ IntKind.wrap IntKind.i64 (i + @Nat.cast Int _ (1))) && (decide (IntKind.wrap IntKind.i64 (i + @Nat.cast Int _ (1)) ≤ @Nat.cast Int _ q) && decide (@Nat.cast Int _ q ≤ @Nat.cast Int _ r)) then bif Nat.beq (Int.toNat (IntKind.wrap IntKind.i64 (i + @Nat.cast Int _ (1)))) (OfNat.ofNat (0)) || decide (Int.toNat (IntKind.wrap IntKind.i64 (i + @Nat.cast Int _ (1))) + 1 ≤ r) then ∀ (p_1 q_1 r_1 : Nat), addN p (Int.toNat (IntKind.wrap IntKind.i64 (i + @Nat.cast Int _ (1)))) = p_1 → Int.toNat (@Nat.cast Int _ q) - Int.toNat (IntKind.wrap IntKind.i64 (i + @Nat.cast Int _ (1))) = q_1 → r - Int.toNat (IntKind.wrap IntKind.i64 (i + @Nat.cast Int _ (1))) = r_1 → bif decide (1 ≤ 1) && decide (1 ≤ q_1) then OverOK Try.prog (99) ∧ bif decide (0 ≤ IntKind.wrap IntKind.i64 (i + @Nat.cast Int _ (1))) && (decide (IntKind.wrap IntKind.i64 (i + @Nat.cast Int _ (1)) ≤ @Nat.cast Int _ q) && decide (@Nat.cast Int _ q ≤ @Nat.cast Int _ r)) then bif Nat.beq (Int.toNat (IntKind.wrap IntKind.i64 (i + @Nat.cast Int _ (1)))) (OfNat.ofNat (0)) || decide (Int.toNat (IntKind.wrap IntKind.i64 (i + @Nat.cast Int _ (1))) + 1 ≤ r) then ∀ (p_2 q_2 r_2 : Nat), addN p (Int.toNat (IntKind.wrap IntKind.i64 (i + @Nat.cast Int _ (1)))) = p_2 → Int.toNat (@Nat.cast Int _ q) - Int.toNat (IntKind.wrap IntKind.i64 (i + @Nat.cast Int _ (1))) = q_2 → r - Int.toNat (IntKind.wrap IntKind.i64 (i + @Nat.cast Int _ (1))) = r_2 → bif decide (0 ≤ i) && (decide (i ≤ @Nat.cast Int _ q) && decide (@Nat.cast Int _ q ≤ @Nat.cast Int _ r)) then bif Nat.beq (Int.toNat i) (OfNat.ofNat (0)) || decide (Int.toNat i + 1 ≤ r) then ∀ (p_3 q_3 r_3 : Nat), addN p (Int.toNat i) = p_3 → Int.toNat (@Nat.cast Int _ q) - Int.toNat i = q_3 → r - Int.toNat i = r_3 → ∀ (c_1 : Nat), min q_3 q_2 = c_1 → bif decide (p_3 + c_1 ≤ List.length (R ++ [])) then bif allV (cut (R ++ []) p_3 c_1) then bif decide (p_2 ≤ List.length (R ++ [])) && (allV (R ++ []) && decide (c_1 ≤ List.length (cut (R ++ []) p_3 c_1))) then ∀ (rs : List (List D)), List.take p_2 (R ++ []) ++ (List.take c_1 (cut (R ++ []) p_3 c_1) ++ List.drop (p_2 + List.length (List.take c_1 (cut (R ++ []) p_3 c_1))) (R ++ [])) = rs → bif decide (0 ≤ i) && (decide (i ≤ @Nat.cast Int _ q) && decide (@Nat.cast Int _ q ≤ @Nat.cast Int _ r)) then bif Nat.beq (Int.toNat i) (OfNat.ofNat (0)) || decide (Int.toNat i + 1 ≤ r) then ∀ (p_4 q_4 r_4 : Nat), addN p (Int.toNat i) = p_4 → Int.toNat (@Nat.cast Int _ q) - Int.toNat i = q_4 → r - Int.toNat i = r_4 → ∀ (c_2 : Nat), min (1) q_4 = c_2 → bif decide (0 + c_2 ≤ 1) then bif allV (cut [[D.v (Value.int IntKind.i64 a), D.v (Value.int IntKind.i64 b), D.v (Value.int IntKind.i64 c)]] (0) c_2) then bif decide (p_4 ≤ List.length rs) && (allV rs && decide (c_2 ≤ List.length (cut [[D.v (Value.int IntKind.i64 a), D.v (Value.int IntKind.i64 b), D.v (Value.int IntKind.i64 c)]] (0) c_2))) then ∀ (rs_1 : List (List D)), List.take p_4 rs ++ (List.take c_2 (cut [[D.v (Value.int IntKind.i64 a), D.v (Value.int IntKind.i64 b), D.v (Value.int IntKind.i64 c)]] (0) c_2) ++ List.drop (p_4 + List.length (List.take c_2 (cut [[D.v (Value.int IntKind.i64 a), D.v (Value.int IntKind.i64 b), D.v (Value.int IntKind.i64 c)]] (0) c_2))) rs) = rs_1 → bif true && (true && Nat.beq p (OfNat.ofNat (0))) then bif decide (q ≤ List.length rs_1) && List.all rs_1 fun r => List.all r D.keeps then K (DV.c (D.s (1) (3) (List.take q rs_1) (List.take (q - q) (List.drop q rs_1)))) else False else False else False else False else False else False else False else False else False else False else False else False else bif decide (0 ≤ i) && (decide (i ≤ @Nat.cast Int _ q) && decide (@Nat.cast Int _ q ≤ @Nat.cast Int _ r)) then bif Nat.beq (Int.toNat i) (OfNat.ofNat (0)) || decide (Int.toNat i + 1 ≤ r) then ∀ (p_2 q_2 r_2 : Nat), addN p (Int.toNat i) = p_2 → Int.toNat (@Nat.cast Int _ q) - Int.toNat i = q_2 → r - Int.toNat i = r_2 → False else False else False else False else False else False else False else False else bif i == @Nat.cast Int _ (List.length R) then bif decide (List.length R ≤ List.length (R ++ [])) && (decide ((List.length R + 1) * 24 ≤ 140737488355328) && decide (List.length R + 1 ≤ 9223372036854775807)) then bif decide (List.length R + 1 ≤ List.length (List.take (List.length R) (R ++ []) ++ cut [[D.v (Value.int IntKind.i64 a), D.v (Value.int IntKind.i64 b), D.v (Value.int IntKind.i64 c)]] (0) (1))) && List.all (List.take (List.length R) (R ++ []) ++ cut [[D.v (Value.int IntKind.i64 a), D.v (Value.int IntKind.i64 b), D.v (Value.int IntKind.i64 c)]] (0) (1)) fun r => List.all r D.keeps then K (DV.c (D.s (1) (3) (List.take (List.length R + 1) (List.take (List.length R) (R ++ []) ++ cut [[D.v (Value.int IntKind.i64 a), D.v (Value.int IntKind.i64 b), D.v (Value.int IntKind.i64 c)]] (0) (1))) (List.take (List.length R + 1 - (List.length R + 1)) (List.drop (List.length R + 1) (List.take (List.length R) (R ++ []) ++ cut [[D.v (Value.int IntKind.i64 a), D.v (Value.int IntKind.i64 b), D.v (Value.int IntKind.i64 c)]] (0) (1)))))) else False else False else bif decide (IntKind.wrap IntKind.i64 (@Nat.cast Int _ (List.length R) + @Nat.cast Int _ (1)) > @Nat.cast Int _ cap) then bif true && (decide (0 ≤ i) && decide (i ≤ @Nat.cast Int _ cap)) then ∀ (p q r : Nat), 0 = p → Int.toNat i - 0 = q → cap - 0 = r → bif decide (p + q ≤ List.length (R ++ [])) then bif allV (cut (R ++ []) p q) then bif decide (1 ≤ IntKind.wrap IntKind.i64 (IntKind.wrap IntKind.i64 (@Nat.cast Int _ (List.length R) + @Nat.cast Int _ (1)) - i)) && (decide (r < q + Int.toNat (IntKind.wrap IntKind.i64 (IntKind.wrap IntKind.i64 (@Nat.cast Int _ (List.length R) + @Nat.cast Int _ (1)) - i))) && (decide ((q + Int.toNat (IntKind.wrap IntKind.i64 (IntKind.wrap IntKind.i64 (@Nat.cast Int _ (List.length R) + @Nat.cast Int _ (1)) - i))) * 24 ≤ 140737488355328) && decide (q + Int.toNat (IntKind.wrap IntKind.i64 (IntKind.wrap IntKind.i64 (@Nat.cast Int _ (List.length R) + @Nat.cast Int _ (1)) - i)) ≤ 9223372036854775807))) then ∀ (n : Nat) (rs : List (List D)), q + Int.toNat (IntKind.wrap IntKind.i64 (IntKind.wrap IntKind.i64 (@Nat.cast Int _ (List.length R) + @Nat.cast Int _ (1)) - i)) = n → cut (R ++ []) p q ++ List.replicate (Int.toNat (IntKind.wrap IntKind.i64 (IntKind.wrap IntKind.i64 (@Nat.cast Int _ (List.length R) + @Nat.cast Int _ (List.length [[vI a, vI b, vI c]])) - i))) (List.map D.v ((fun x => (Value.cells x).toList) (Value.agg #[Value.int IntKind.i64 (0), Value.int IntKind.i64 (0), Value.int IntKind.i64 (0)]))) = rs → bif decide (0 ≤ i) && (decide (i ≤ @Nat.cast Int _ n) && decide (@Nat.cast Int _ n ≤ @Nat.cast Int _ n)) then bif Nat.beq (Int.toNat i) (OfNat.ofNat (0)) || decide (Int.toNat i + 1 ≤ n) then ∀ (c_1 : Nat), min (1) (Int.toNat (@Nat.cast Int _ n) - Int.toNat i) = c_1 → bif decide (0 + c_1 ≤ 1) then bif allV (cut [[D.v (Value.int IntKind.i64 a), D.v (Value.int IntKind.i64 b), D.v (Value.int IntKind.i64 c)]] (0) c_1) then bif decide (addN (0) (Int.toNat i) ≤ List.length rs) && (allV rs && decide (c_1 ≤ List.length (cut [[D.v (Value.int IntKind.i64 a), D.v (Value.int IntKind.i64 b), D.v (Value.int IntKind.i64 c)]] (0) c_1))) then ∀ (rs_1 : List (List D)), List.take (addN (0) (Int.toNat i)) rs ++ (List.take c_1 (cut [[D.v (Value.int IntKind.i64 a), D.v (Value.int IntKind.i64 b), D.v (Value.int IntKind.i64 c)]] (0) c_1) ++ List.drop (addN (0) (Int.toNat i) + List.length (List.take c_1 (cut [[D.v (Value.int IntKind.i64 a), D.v (Value.int IntKind.i64 b), D.v (Value.int IntKind.i64 c)]] (0) c_1))) rs) = rs_1 → bif decide (0 ≤ IntKind.wrap IntKind.i64 (i + @Nat.cast Int _ (1))) && (decide (IntKind.wrap IntKind.i64 (i + @Nat.cast Int _ (1)) ≤ @Nat.cast Int _ n) && decide (@Nat.cast Int _ n ≤ @Nat.cast Int _ n)) then bif Nat.beq (Int.toNat (IntKind.wrap IntKind.i64 (i + @Nat.cast Int _ (1)))) (OfNat.ofNat (0)) || decide (Int.toNat (IntKind.wrap IntKind.i64 (i + @Nat.cast Int _ (1))) + 1 ≤ n) then bif decide (0 ≤ i) && (decide (i ≤ @Nat.cast Int _ (List.length R)) && decide (@Nat.cast Int _ (List.length R) ≤ @Nat.cast Int _ cap)) then bif Nat.beq (Int.toNat i) (OfNat.ofNat (0)) || decide (Int.toNat i + 1 ≤ cap) then ∀ (p q r : Nat), addN (0) (Int.toNat i) = p → Int.toNat (@Nat.cast Int _ (List.length R)) - Int.toNat i = q → cap - Int.toNat i = r → ∀ (c_2 : Nat), min q (Int.toNat (@Nat.cast Int _ n) - Int.toNat (IntKind.wrap IntKind.i64 (i + @Nat.cast Int _ (1)))) = c_2 → bif decide (p + c_2 ≤ List.length (R ++ [])) then bif allV (cut (R ++ []) p c_2) then bif decide (addN (0) (Int.toNat (IntKind.wrap IntKind.i64 (i + @Nat.cast Int _ (1)))) ≤ List.length rs_1) && (allV rs_1 && decide (c_2 ≤ List.length (cut (R ++ []) p c_2))) then ∀ (rs : List (List D)), List.take (addN (0) (Int.toNat (IntKind.wrap IntKind.i64 (i + @Nat.cast Int _ (1))))) rs_1 ++ (List.take c_2 (cut (R ++ []) p c_2) ++ List.drop (addN (0) (Int.toNat (IntKind.wrap IntKind.i64 (i + @Nat.cast Int _ (1)))) + List.length (List.take c_2 (cut (R ++ []) p c_2))) rs_1) = rs → bif decide (n ≤ List.length rs) && List.all rs fun r => List.all r D.keeps then K (DV.c (D.s (1) (3) (List.take n rs) (List.take (n - n) (List.drop n rs)))) else False else False else False else False else False else False else bif decide (0 ≤ i) && (decide (i ≤ @Nat.cast Int _ (List.length R)) && decide (@Nat.cast Int _ (List.length R) ≤ @Nat.cast Int _ cap)) then bif Nat.beq (Int.toNat i) (OfNat.ofNat (0)) || decide (Int.toNat i + 1 ≤ cap) then ∀ (p q r : Nat), addN (0) (Int.toNat i) = p → Int.toNat (@Nat.cast Int _ (List.length R)) - Int.toNat i = q → cap - Int.toNat i = r → False else False else False else False else False else False else False else False else False else False else False else False else False else bif true && (decide (0 ≤ IntKind.wrap IntKind.i64 (@Nat.cast Int _ (List.length R) + @Nat.cast Int _ (1))) && decide (IntKind.wrap IntKind.i64 (@Nat.cast Int _ (List.length R) + @Nat.cast Int _ (1)) ≤ @Nat.cast Int _ cap)) then ∀ (p q r : Nat), 0 = p → Int.toNat (IntKind.wrap IntKind.i64 (@Nat.cast Int _ (List.length R) + @Nat.cast Int _ (1))) - 0 = q → cap - 0 = r → bif decide (0 ≤ IntKind.wrap IntKind.i64 (i + @Nat.cast Int _ (1))) && (decide (IntKind.wrap IntKind.i64 (i + @Nat.cast Int _ (1)) ≤ @Nat.cast Int _ q) && decide (@Nat.cast Int _ q ≤ @Nat.cast Int _ r)) then bif Nat.beq (Int.toNat (IntKind.wrap IntKind.i64 (i + @Nat.cast Int _ (1)))) (OfNat.ofNat (0)) || decide (Int.toNat (IntKind.wrap IntKind.i64 (i + @Nat.cast Int _ (1))) + 1 ≤ r) then ∀ (p_1 q_1 r_1 : Nat), addN p (Int.toNat (IntKind.wrap IntKind.i64 (i + @Nat.cast Int _ (1)))) = p_1 → Int.toNat (@Nat.cast Int _ q) - Int.toNat (IntKind.wrap IntKind.i64 (i + @Nat.cast Int _ (1))) = q_1 → r - Int.toNat (IntKind.wrap IntKind.i64 (i + @Nat.cast Int _ (1))) = r_1 → bif decide (1 ≤ 1) && decide (1 ≤ q_1) then OverOK Try.prog (99) ∧ bif decide (0 ≤ IntKind.wrap IntKind.i64 (i + @Nat.cast Int _ (1))) && (decide (IntKind.wrap IntKind.i64 (i + @Nat.cast Int _ (1)) ≤ @Nat.cast Int _ q) && decide (@Nat.cast Int _ q ≤ @Nat.cast Int _ r)) then bif Nat.beq (Int.toNat (IntKind.wrap IntKind.i64 (i + @Nat.cast Int _ (1)))) (OfNat.ofNat (0)) || decide (Int.toNat (IntKind.wrap IntKind.i64 (i + @Nat.cast Int _ (1))) + 1 ≤ r) then ∀ (p_2 q_2 r_2 : Nat), addN p (Int.toNat (IntKind.wrap IntKind.i64 (i + @Nat.cast Int _ (1)))) = p_2 → Int.toNat (@Nat.cast Int _ q) - Int.toNat (IntKind.wrap IntKind.i64 (i + @Nat.cast Int _ (1))) = q_2 → r - Int.toNat (IntKind.wrap IntKind.i64 (i + @Nat.cast Int _ (1))) = r_2 → bif decide (0 ≤ i) && (decide (i ≤ @Nat.cast Int _ q) && decide (@Nat.cast Int _ q ≤ @Nat.cast Int _ r)) then bif Nat.beq (Int.toNat i) (OfNat.ofNat (0)) || decide (Int.toNat i + 1 ≤ r) then ∀ (p_3 q_3 r_3 : Nat), addN p (Int.toNat i) = p_3 → Int.toNat (@Nat.cast Int _ q) - Int.toNat i = q_3 → r - Int.toNat i = r_3 → ∀ (c_1 : Nat), min q_3 q_2 = c_1 → bif decide (p_3 + c_1 ≤ List.length (R ++ [])) then bif allV (cut (R ++ []) p_3 c_1) then bif decide (p_2 ≤ List.length (R ++ [])) && (allV (R ++ []) && decide (c_1 ≤ List.length (cut (R ++ []) p_3 c_1))) then ∀ (rs : List (List D)), List.take p_2 (R ++ []) ++ (List.take c_1 (cut (R ++ []) p_3 c_1) ++ List.drop (p_2 + List.length (List.take c_1 (cut (R ++ []) p_3 c_1))) (R ++ [])) = rs → bif decide (0 ≤ i) && (decide (i ≤ @Nat.cast Int _ q) && decide (@Nat.cast Int _ q ≤ @Nat.cast Int _ r)) then bif Nat.beq (Int.toNat i) (OfNat.ofNat (0)) || decide (Int.toNat i + 1 ≤ r) then ∀ (p_4 q_4 r_4 : Nat), addN p (Int.toNat i) = p_4 → Int.toNat (@Nat.cast Int _ q) - Int.toNat i = q_4 → r - Int.toNat i = r_4 → ∀ (c_2 : Nat), min (1) q_4 = c_2 → bif decide (0 + c_2 ≤ 1) then bif allV (cut [[D.v (Value.int IntKind.i64 a), D.v (Value.int IntKind.i64 b), D.v (Value.int IntKind.i64 c)]] (0) c_2) then bif decide (p_4 ≤ List.length rs) && (allV rs && decide (c_2 ≤ List.length (cut [[D.v (Value.int IntKind.i64 a), D.v (Value.int IntKind.i64 b), D.v (Value.int IntKind.i64 c)]] (0) c_2))) then ∀ (rs_1 : List (List D)), List.take p_4 rs ++ (List.take c_2 (cut [[D.v (Value.int IntKind.i64 a), D.v (Value.int IntKind.i64 b), D.v (Value.int IntKind.i64 c)]] (0) c_2) ++ List.drop (p_4 + List.length (List.take c_2 (cut [[D.v (Value.int IntKind.i64 a), D.v (Value.int IntKind.i64 b), D.v (Value.int IntKind.i64 c)]] (0) c_2))) rs) = rs_1 → bif true && (true && Nat.beq p (OfNat.ofNat (0))) then bif decide (q ≤ List.length rs_1) && List.all rs_1 fun r => List.all r D.keeps then K (DV.c (D.s (1) (3) (List.take q rs_1) (List.take (q - q) (List.drop q rs_1)))) else False else False else False else False else False else False else False else False else False else False else False else False else bif decide (0 ≤ i) && (decide (i ≤ @Nat.cast Int _ q) && decide (@Nat.cast Int _ q ≤ @Nat.cast Int _ r)) then bif Nat.beq (Int.toNat i) (OfNat.ofNat (0)) || decide (Int.toNat i + 1 ≤ r) then ∀ (p_2 q_2 r_2 : Nat), addN p (Int.toNat i) = p_2 → Int.toNat (@Nat.cast Int _ q) - Int.toNat i = q_2 → r - Int.toNat i = r_2 → False else False else False else False else False else False else False else False else False) := by kernel_rfl
theorem eIns0 (a b c : Int) (K : DV → Prop) : (evp Try.prog hIns 200 (bodyOf Try.f86) (finX Try.prog Try.f86 K) (entryX Try.f86.ntmps [oS 3 [] [], I 0, oS 3 [[vI a, vI b, vI c]] []])) = (K (DV.c (D.s (1) (3) [[D.v (Value.int IntKind.i64 a), D.v (Value.int IntKind.i64 b), D.v (Value.int IntKind.i64 c)]] []))) := by kernel_rfl
theorem cnd {b : Bool} {p q : Prop} (h : b = true) (hp : p) : cond b p q := by rw [h]; exact hp
theorem cndF {b : Bool} {p q : Prop} (h : b = false) (hq : q) : cond b p q := by rw [h]; exact hq
def ins {α : Type} (l : List α) (j : Nat) (x : α) : List α := l.take j ++ x :: l.drop j
theorem ins_len {α : Type} {l : List α} {j : Nat} {x : α} (h : j ≤ l.length) : (ins l j x).length = l.length + 1 := by simp [ins]; omega
theorem ins_a {l : List (List D)} {j : Nat} {x : List D} (h : j ≤ l.length) (z : List D) : List.take (j + 1) (List.take j (List.take j l ++ List.replicate (l.length + 1 - j) z) ++ ([x] ++ List.drop (j + 1) (List.take j l ++ List.replicate (l.length + 1 - j) z))) ++ (l.drop j ++ List.drop (l.length + 1) (List.take j (List.take j l ++ List.replicate (l.length + 1 - j) z) ++ ([x] ++ List.drop (j + 1) (List.take j l ++ List.replicate (l.length + 1 - j) z)))) = ins l j x := by
  have h1 : (List.take j l).length = j := by simp; omega
  have h2 : List.take j (List.take j l ++ List.replicate (l.length + 1 - j) z) = List.take j l := by rw [List.take_append_of_le_length (by omega), List.take_take, Nat.min_self]
  rw [h2]
  have h3 : List.take (j + 1) (List.take j l ++ ([x] ++ List.drop (j + 1) (List.take j l ++ List.replicate (l.length + 1 - j) z))) = List.take j l ++ [x] := by
    rw [← List.append_assoc, List.take_append_of_le_length (by simp; omega)]
    rw [List.take_of_length_le (by simp; omega)]
  have h4 : List.drop (l.length + 1) (List.take j l ++ ([x] ++ List.drop (j + 1) (List.take j l ++ List.replicate (l.length + 1 - j) z))) = [] := by
    apply List.drop_eq_nil_of_le
    simp; omega
  rw [h3, h4]
  simp [ins]
theorem allV_append {l m : List (List D)} (h : allV l = true) (h2 : allV m = true) : allV (l ++ m) = true := by
  unfold allV at *; rw [List.all_append, h, h2]; rfl
theorem allV_take {l : List (List D)} (h : allV l = true) (n : Nat) : allV (l.take n) = true := List.all_eq_true.2 fun r hr => List.all_eq_true.1 h r (List.mem_of_mem_take hr)
theorem allV_drop {l : List (List D)} (h : allV l = true) (n : Nat) : allV (l.drop n) = true := List.all_eq_true.2 fun r hr => List.all_eq_true.1 h r (List.mem_of_mem_drop hr)
theorem allV_ins {l : List (List D)} {r : List D} (h : allV l = true) (hr : r.all D.isV = true) (j : Nat) : allV (ins l j r) = true := allV_append (allV_take h j) (by unfold allV; rw [List.all_cons, hr]; exact allV_drop h j)
theorem ins_b {l : List (List D)} {j : Nat} {x : List D} (h : j < l.length) : List.take j (List.take (j + 1) l ++ (List.drop j l ++ List.drop (j + 1 + (l.length - j)) l)) ++ ([x] ++ List.drop (j + 1) (List.take (j + 1) l ++ (List.drop j l ++ List.drop (j + 1 + (l.length - j)) l))) = ins l j x := by
  have h4 : List.drop (j + 1 + (l.length - j)) l = [] := List.drop_eq_nil_of_le (by omega)
  rw [h4, List.append_nil]
  have h1 : (List.take (j + 1) l).length = j + 1 := by rw [List.length_take, Nat.min_eq_left (by omega)]
  rw [List.take_append_of_le_length (by omega), List.take_take, Nat.min_eq_left (by omega), List.drop_append_of_le_length (by omega), List.drop_eq_nil_of_le (by omega), List.nil_append]
  rfl
theorem cut0 {l : List (List D)} {n : Nat} : cut l 0 n = l.take n := by simp [cut]
theorem cutd {l : List (List D)} {p n : Nat} (h : p + n = l.length) : cut l p n = l.drop p := by
  unfold cut; rw [List.take_of_length_le (by simp; omega)]
theorem ins_ct {R : List (List D)} {j : Nat} {a b c : Int} {cap : Nat} (hR : allV R = true) (hj : j ≤ R.length) (hn : R.length ≤ 5864062014634) (hc : R.length ≤ cap) (K : DV → Prop)
    (hK : K (.c (.s 1 3 (ins R j [vI a, vI b, vI c]) []))) :
    evp Try.prog hIns 200 (bodyOf Try.f86) (finX Try.prog Try.f86 K) ((entryX Try.f86.ntmps [oS 3 R [], I j, oS 3 [[vI a, vI b, vI c]] []]).setT 0 (.rx 1000000 1 3 0 R.length cap)) := by
  rw [eInsG]
  have w1 : IntKind.wrap .i64 ((R.length : Int) + ((1 : Nat) : Int)) = ((R.length + 1 : Nat) : Int) := by rw [IntKind.wrap_i64]; omega
  have w2 : IntKind.wrap .i64 (((R.length + 1 : Nat) : Int) - (j : Int)) = ((R.length + 1 - j : Nat) : Int) := by rw [IntKind.wrap_i64]; omega
  have w3 : IntKind.wrap .i64 ((j : Int) + ((1 : Nat) : Int)) = ((j + 1 : Nat) : Int) := by rw [IntKind.wrap_i64]; omega
  have hL1 : ([[vI a, vI b, vI c]] : List (List D)).length = 1 := rfl
  have hx : ([[vI a, vI b, vI c]] : List (List D)).all (fun r => r.all D.isV) = true := rfl
  have a0 : ∀ n, addN 0 n = n := fun n => by rw [addN_eq]; omega
  simp only [hL1, w1, w2, w3, Int.toNat_natCast, List.append_nil, Nat.sub_zero, a0]
  have hkeep : ∀ l : List (List D), allV l = true → (l.all fun r => r.all D.keeps) = true := fun l hl => keeps_of hl
  have hi : allV (ins R j [vI a, vI b, vI c]) = true := allV_ins hR rfl j
  have hil := ins_len (x := [vI a, vI b, vI c]) hj
  have hu : OverOK Try.prog 99 := over_ok
  generalize hW : ([D.v (Value.int IntKind.i64 a), D.v (Value.int IntKind.i64 b), D.v (Value.int IntKind.i64 c)] : List D) = W
  have hWv : allV [W] = true := by rw [← hW]; rfl
  have hWi : ins R j [vI a, vI b, vI c] = ins R j W := by rw [← hW]
  rw [hWi] at hK hi hil
  have hW1 : ∀ n, cut [W] 0 n = [W].take n := fun n => cut0
  have ht1 : [W].take 1 = [W] := rfl
  refine cnd (by simp only [Bool.and_eq_true, decide_eq_true_eq]; omega) ?_
  have p1 : j = R.length → ∀ X Y : Prop, bif decide (R.length ≤ R.length) && (decide ((R.length + 1) * 24 ≤ 140737488355328) && decide (R.length + 1 ≤ 9223372036854775807)) then bif decide (R.length + 1 ≤ List.length (List.take R.length R ++ cut [W] 0 1)) && List.all (List.take R.length R ++ cut [W] 0 1) (fun r => List.all r D.keeps) then K (DV.c (D.s 1 3 (List.take (R.length + 1) (List.take R.length R ++ cut [W] 0 1)) (List.take (R.length + 1 - (R.length + 1)) (List.drop (R.length + 1) (List.take R.length R ++ cut [W] 0 1))))) else X else Y := fun hjn X Y => by
    subst hjn
    have e1 : List.take R.length R ++ cut [W] 0 1 = ins R R.length W := by simp [ins, hW1, ht1]
    have e2 : List.take (R.length + 1) (ins R R.length W) = ins R R.length W := List.take_of_length_le (by omega)
    rw [e1, e2]
    refine cnd (by simp only [Bool.and_eq_true, decide_eq_true_eq]; omega) (cnd (by rw [hil, hkeep _ hi]; simp) ?_)
    simp only [Nat.sub_self, List.take_zero]
    exact hK
  cases hq : (Nat.beq j (OfNat.ofNat 0) || decide (j + 1 ≤ cap)) with
  | false =>
    simp only [cond_false]
    have hjn : j = R.length := by simp at hq; omega
    refine cnd (by simp [hjn]) (p1 hjn _ _)
  | true =>
    simp only [cond_true]
    intro _ _ _ _ _ _
    by_cases hjn : j = R.length
    · exact cnd (by simp [hjn]) (p1 hjn _ _)
    · have hjl : j < R.length := by omega
      have hq2 : (Nat.beq j (OfNat.ofNat 0) || decide (j + 1 ≤ cap)) = true := by simp; omega
      clear hq
      have hji : ((j : Int) == (R.length : Int)) = false := by simp; omega
      rw [hji]
      simp only [cond_false]
      by_cases hg : cap < R.length + 1
      · refine cnd (by simp; omega) (cnd (by simp; omega) ?_)
        intro _ _ _ h1 h2 h3
        subst h1 h2 h3
        refine cnd (by simp; omega) (cnd (by rw [cut0]; exact allV_take hR _) (cnd (by simp only [Bool.and_eq_true, decide_eq_true_eq]; omega) ?_))
        intro n rs h1 h2
        have hn' : n = R.length + 1 := by omega
        subst hn'
        rw [cut0] at h2
        generalize hZ : (List.map D.v ((fun x => (Value.cells x).toList) (Value.agg #[Value.int IntKind.i64 0, Value.int IntKind.i64 0, Value.int IntKind.i64 0]))) = Z at h2
        have hZv : Z.all D.isV = true := by rw [← hZ]; rfl
        have hrv : allV rs = true := by
          rw [← h2]
          refine allV_append (allV_take hR _) (List.all_eq_true.2 fun r hr => ?_)
          rw [(List.mem_replicate.1 hr).2]; exact hZv
        have hrl : rs.length = R.length + 1 := by rw [← h2, List.length_append, List.length_replicate, List.length_take]; omega
        refine cnd (by simp only [Bool.and_eq_true, decide_eq_true_eq]; omega) (cnd (by simp; omega) ?_)
        intro c1 hc1
        have hc1 : c1 = 1 := by rw [← hc1]; exact Nat.min_eq_left (by omega)
        subst hc1
        simp only [hW1, ht1]
        refine cnd (by simp) (cnd hWv (cnd (by rw [hrv]; simp; omega) ?_))
        intro rs1 h3
        have h3l : rs1.length = R.length + 1 := by rw [← h3]; simp; omega
        have h3v : allV rs1 = true := by rw [← h3]; exact allV_append (allV_take hrv _) (allV_append hWv (allV_drop hrv _))
        refine cnd (by simp only [Bool.and_eq_true, decide_eq_true_eq]; omega) (cnd (by simp; omega) (cnd (by simp only [Bool.and_eq_true, decide_eq_true_eq]; omega) ?_))
        intro _ _ _ h4 h5 h6 c2 hc2
        subst h4 h5 h6
        have hc2 : c2 = R.length - j := by omega
        subst hc2
        rw [cutd (by omega)]
        have hdl : (List.drop j R).length = R.length - j := by simp
        have hdt : List.take (R.length - j) (List.drop j R) = List.drop j R := List.take_of_length_le (by omega)
        refine cnd (by simp; omega) (cnd (allV_drop hR _) (cnd (by rw [h3v]; simp; omega) ?_))
        intro rs2 h7
        have h8 : rs2 = ins R j W := by
          rw [← h7, hdt, ← h3, ← h2]
          simp only [List.length_singleton]
          rw [show j + 1 + (List.drop j R).length = R.length + 1 by omega]
          exact ins_a hj Z
        subst h8
        refine cnd (by rw [hil, hkeep _ hi]; simp) ?_
        rw [List.take_of_length_le (by omega)]
        simp only [Nat.sub_self, List.take_zero]
        exact hK
      · refine cndF (by simp; omega) (cnd (by simp; omega) ?_)
        intro _ _ _ h1 h2 h3
        subst h1 h2 h3
        refine cnd (by simp only [Bool.and_eq_true, decide_eq_true_eq]; omega) (cnd (by simp; omega) ?_)
        intro _ _ _ h1 h2 h3
        subst h1 h2 h3
        refine cnd (by simp; omega) ⟨hu, ?_⟩
        refine cnd (by simp only [Bool.and_eq_true, decide_eq_true_eq]; omega) (cnd (by simp; omega) ?_)
        intro _ _ _ h1 h2 h3
        subst h1 h2 h3
        refine cnd (by simp only [Bool.and_eq_true, decide_eq_true_eq]; omega) (cnd (by simp; omega) ?_)
        intro _ _ _ h1 h2 h3 c1 hc1
        subst h1 h2 h3
        have hc1 : c1 = R.length - j := by omega
        subst hc1
        simp only [a0]
        rw [cutd (by omega)]
        have hdl : (List.drop j R).length = R.length - j := by simp
        have hdt : List.take (R.length - j) (List.drop j R) = List.drop j R := List.take_of_length_le (by omega)
        refine cnd (by simp; omega) (cnd (allV_drop hR _) (cnd (by rw [hR]; simp; omega) ?_))
        intro rs h1
        have hrv : allV rs = true := by rw [← h1]; exact allV_append (allV_take hR _) (allV_append (allV_take (allV_drop hR _) _) (allV_drop hR _))
        have hrl : rs.length = R.length + 1 := by rw [← h1]; simp; omega
        refine cnd (by simp only [Bool.and_eq_true, decide_eq_true_eq]; omega) (cnd (by simp; omega) ?_)
        intro _ _ _ h2 h3 h4 c2 hc2
        subst h2 h3 h4
        have hc2 : c2 = 1 := by rw [← hc2]; exact Nat.min_eq_left (by omega)
        subst hc2
        simp only [hW1, ht1]
        refine cnd (by simp) (cnd hWv (cnd (by rw [hrv]; simp; omega) ?_))
        intro rs1 h5
        have h6 : rs1 = ins R j W := by
          rw [← h5, ← h1, hdt, hdl]
          simp only [List.length_singleton]
          exact ins_b hjl
        subst h6
        refine cnd (by rfl) (cnd (by rw [hil, hkeep _ hi]; simp) ?_)
        rw [List.take_of_length_le (by omega)]
        simp only [Nat.sub_self, List.take_zero]
        exact hK
theorem ins_L : LoopsOK Try.prog hIns (bodyOf Try.f86) := fun b hb s hs => by cases hs
theorem ins0_ct (a b c : Int) : CT Try.prog 86 [oS 3 [] [], I 0, oS 3 [[vI a, vI b, vI c]] []] (.c (.s 1 3 [[vI a, vI b, vI c]] [])) := by
  refine ct_of_evp (H := hIns) hIns_ok mixed 200 Try.func86 (c := bodyOf Try.f86) rfl ins_L (Nat.le_of_ble_eq_true rfl) rfl ?_
  rw [eIns0]
theorem insn_ct {R : List (List D)} {j : Nat} (a b c : Int) (hR : allV R = true) (hj : j ≤ R.length) (hn : R.length ≤ 5864062014634) (h0 : R.length ≠ 0) : CT Try.prog 86 [oS 3 R [], I j, oS 3 [[vI a, vI b, vI c]] []] (.c (.s 1 3 (ins R j [vI a, vI b, vI c]) [])) := by
  refine ct_ofX Try.func86 (c := bodyOf Try.f86) rfl (Nat.le_of_ble_eq_true rfl) rfl ?_
  refine xwp_rx (k := 1000000) (g := 1) (wd := 3) (lo := 0) (len := R.length) (kn := R.length + 0) 0 (Nat.le_of_ble_eq_true rfl) rfl (fun cap h3 h4 => ?_) (fun _ h3 _ => (h0 h3).elim)
  exact evp_sound hIns_ok mixed 200 _ _ _ ins_L (ins_ct hR hj hn h3 _ rfl)
def sIns : Spec := fun ds Q => match ds with
  | [.c (.s 1 3 R sp), .c (.v (.int .i64 j)), .c (.s 1 3 [[.v (.int .i64 a), .v (.int .i64 b), .v (.int .i64 c)]] [])] => cond (allV R && (decide (0 ≤ j) && (decide (j ≤ R.length) && decide (R.length ≤ 5864062014634)))) (Q (.c (.s 1 3 (ins R j.toNat [vI a, vI b, vI c]) []))) False
  | _ => False
theorem oIns : SpecOK Try.prog 86 sIns := o_of Try.func86 (by kernel_rfl) rfl fun ds Q h => by
  unfold sIns at h; split at h
  · rename_i R sp j a b c
    obtain ⟨h1, h2⟩ := cond_P h
    simp only [Bool.and_eq_true, decide_eq_true_eq] at h1
    obtain ⟨q1, q2, q3, q4⟩ := h1
    obtain ⟨n, rfl⟩ := Int.eq_ofNat_of_zero_le q2
    rw [Int.toNat_natCast] at h2
    have hi : allV (ins R n [vI a, vI b, vI c]) = true := allV_ins q1 rfl n
    refine ⟨_, ?_, by simp [DV.pureOwn, DV.pure1, D.pureOwn, ownLL_of hi]; rfl, rfl, h2⟩
    by_cases h0 : R.length = 0
    · have hR : R = [] := List.eq_nil_of_length_eq_zero h0
      subst hR
      have hn : n = 0 := by simp at q3; omega
      subst hn
      exact (ins0_ct a b c).less
    · exact (insn_ct (j := n) a b c q1 (by omega) q4 h0).less
  · exact h.elim
end Vm
