/- An interpreter for Go's texts over plain data, its proof, and what it says of the functions that the law reaches. My own work. -/
import Derived.Test.YtnhodnfnlnccaaaGreatSg4
set_option linter.unusedSimpArgs false
set_option linter.unusedVariables false
set_option maxRecDepth 100000
set_option maxHeartbeats 2000000
namespace Vm
section
open Go Go.Proofs
def hIns : Hooks := { hkl [] [] with over := fun n => Nat.beq n 181 }
theorem Zon : Zau Tryz.prog hIns := ⟨fun _ _ => rfl, fun _ _ => rfl, ⟨fun _ => rfl, fun _ => rfl, fun _ => rfl⟩, fun f ds Q hq => hq.elim, Zev rfl⟩
theorem ZsT : ZhW Tryz.prog 181 := by
  refine ⟨57, 4, 71, 3, Tryz.underlying57, fun w => Zba rfl w, fun args w => ?_⟩
  exact run_callFunc_extern Tryz.func181 (by kernel_rfl) (by kernel_rfl) (by kernel_rfl) (e := Extern.SlicesOverlaps.overlaps #[57, 57] #[4]) (by kernel_rfl) args w
theorem Zww (R : List (List D)) (i : Int) (a b c : Int) (cap : Nat) (K : DV → Prop) : (evp Tryz.prog hIns 200 (Zao Tryz.f140) (finX Tryz.prog Tryz.f140 K) ((Zbz Tryz.f140.ntmps [oS 3 R [], I i, oS 3 [[vI a, vI b, vI c]] []]).setT 0 (.rx 1000000 1 3 0 R.length cap))) = (bif decide (0 ≤ i) && (decide (i ≤ @Nat.cast Int _ (List.length R)) && decide (@Nat.cast Int _ (List.length R) ≤ @Nat.cast Int _ cap)) then bif Nat.beq (Int.toNat i) (OfNat.ofNat (0)) || decide (Int.toNat i + 1 ≤ cap) then ∀ (p q r : Nat), addN (0) (Int.toNat i) = p → Int.toNat (@Nat.cast Int _ (List.length R)) - Int.toNat i = q → cap - Int.toNat i = r → bif i == @Nat.cast Int _ (List.length R) then bif decide (List.length R ≤ List.length (R ++ [])) && (decide ((List.length R + 1) * 24 ≤ 140737488355328) && decide (List.length R + 1 ≤ 9223372036854775807)) then bif decide (List.length R + 1 ≤ List.length (List.take (List.length R) (R ++ []) ++ cut [[D.v (Value.int IntKind.i64 a), D.v (Value.int IntKind.i64 b), D.v (Value.int IntKind.i64 c)]] (0) (1))) && List.all (List.take (List.length R) (R ++ []) ++ cut [[D.v (Value.int IntKind.i64 a), D.v (Value.int IntKind.i64 b), D.v (Value.int IntKind.i64 c)]] (0) (1)) fun r => List.all r D.keeps then K (DV.c (D.s (1) (3) (List.take (List.length R + 1) (List.take (List.length R) (R ++ []) ++ cut [[D.v (Value.int IntKind.i64 a), D.v (Value.int IntKind.i64 b), D.v (Value.int IntKind.i64 c)]] (0) (1))) (List.take (List.length R + 1 - (List.length R + 1)) (List.drop (List.length R + 1) (List.take (List.length R) (R ++ []) ++ cut [[D.v (Value.int IntKind.i64 a), D.v (Value.int IntKind.i64 b), D.v (Value.int IntKind.i64 c)]] (0) (1)))))) else False else False else bif decide (IntKind.wrap IntKind.i64 (@Nat.cast Int _ (List.length R) + @Nat.cast Int _ (1)) > @Nat.cast Int _ cap) then bif true && (decide (0 ≤ i) && decide (i ≤ @Nat.cast Int _ cap)) then ∀ (p q r : Nat), 0 = p → Int.toNat i - 0 = q → cap - 0 = r → bif decide (p + q ≤ List.length (R ++ [])) then bif allV (cut (R ++ []) p q) then bif decide (1 ≤ IntKind.wrap IntKind.i64 (IntKind.wrap IntKind.i64 (@Nat.cast Int _ (List.length R) + @Nat.cast Int _ (1)) - i)) && (decide (r < q + Int.toNat (IntKind.wrap IntKind.i64 (IntKind.wrap IntKind.i64 (@Nat.cast Int _ (List.length R) + @Nat.cast Int _ (1)) - i))) && (decide ((q + Int.toNat (IntKind.wrap IntKind.i64 (IntKind.wrap IntKind.i64 (@Nat.cast Int _ (List.length R) + @Nat.cast Int _ (1)) - i))) * 24 ≤ 140737488355328) && decide (q + Int.toNat (IntKind.wrap IntKind.i64 (IntKind.wrap IntKind.i64 (@Nat.cast Int _ (List.length R) + @Nat.cast Int _ (1)) - i)) ≤ 9223372036854775807))) then ∀ (n : Nat) (rs : List (List D)), q + Int.toNat (IntKind.wrap IntKind.i64 (IntKind.wrap IntKind.i64 (@Nat.cast Int _ (List.length R) + @Nat.cast Int _ (1)) - i)) = n → cut (R ++ []) p q ++ List.replicate (Int.toNat (IntKind.wrap IntKind.i64 (IntKind.wrap IntKind.i64 (@Nat.cast Int _ (List.length R) + @Nat.cast Int _ (List.length [[vI a, vI b, vI c]])) - i))) (List.map D.v ((fun x => (Value.cells x).toList) (Value.agg #[Value.int IntKind.i64 (0), Value.int IntKind.i64 (0), Value.int IntKind.i64 (0)]))) = rs → bif decide (0 ≤ i) && (decide (i ≤ @Nat.cast Int _ n) && decide (@Nat.cast Int _ n ≤ @Nat.cast Int _ n)) then bif Nat.beq (Int.toNat i) (OfNat.ofNat (0)) || decide (Int.toNat i + 1 ≤ n) then ∀ (c_1 : Nat), min (1) (Int.toNat (@Nat.cast Int _ n) - Int.toNat i) = c_1 → bif decide (0 + c_1 ≤ 1) then bif allV (cut [[D.v (Value.int IntKind.i64 a), D.v (Value.int IntKind.i64 b), D.v (Value.int IntKind.i64 c)]] (0) c_1) then bif decide (addN (0) (Int.toNat i) ≤ List.length rs) && (allV rs && decide (c_1 ≤ List.length (cut [[D.v (Value.int IntKind.i64 a), D.v (Value.int IntKind.i64 b), D.v (Value.int IntKind.i64 c)]] (0) c_1))) then ∀ (rs_1 : List (List D)), List.take (addN (0) (Int.toNat i)) rs ++ (List.take c_1 (cut [[D.v (Value.int IntKind.i64 a), D.v (Value.int IntKind.i64 b), D.v (Value.int IntKind.i64 c)]] (0) c_1) ++ List.drop (addN (0) (Int.toNat i) + List.length (List.take c_1 (cut [[D.v (Value.int IntKind.i64 a), D.v (Value.int IntKind.i64 b), D.v (Value.int IntKind.i64 c)]] (0) c_1))) rs) = rs_1 → bif decide (0 ≤ IntKind.wrap IntKind.i64 (i + @Nat.cast Int _ (1))) && (decide (IntKind.wrap IntKind.i64 (i + @Nat.cast Int _ (1)) ≤ @Nat.cast Int _ n) && decide (@Nat.cast Int _ n ≤ @Nat.cast Int _ n)) then bif Nat.beq (Int.toNat (IntKind.wrap IntKind.i64 (i + @Nat.cast Int _ (1)))) (OfNat.ofNat (0)) || decide (Int.toNat (IntKind.wrap IntKind.i64 (i + @Nat.cast Int _ (1))) + 1 ≤ n) then bif decide (0 ≤ i) && (decide (i ≤ @Nat.cast Int _ (List.length R)) && decide (@Nat.cast Int _ (List.length R) ≤ @Nat.cast Int _ cap)) then bif Nat.beq (Int.toNat i) (OfNat.ofNat (0)) || decide (Int.toNat i + 1 ≤ cap) then ∀ (p q r : Nat), addN (0) (Int.toNat i) = p → Int.toNat (@Nat.cast Int _ (List.length R)) - Int.toNat i = q → cap - Int.toNat i = r → ∀ (c_2 : Nat), min q (Int.toNat (@Nat.cast Int _ n) - Int.toNat (IntKind.wrap IntKind.i64 (i + @Nat.cast Int _ (1)))) = c_2 → bif decide (p + c_2 ≤ List.length (R ++ [])) then bif allV (cut (R ++ []) p c_2) then bif decide (addN (0) (Int.toNat (IntKind.wrap IntKind.i64 (i + @Nat.cast Int _ (1)))) ≤ List.length rs_1) && (allV rs_1 && decide (c_2 ≤ List.length (cut (R ++ []) p c_2))) then ∀ (rs : List (List D)), List.take (addN (0) (Int.toNat (IntKind.wrap IntKind.i64 (i + @Nat.cast Int _ (1))))) rs_1 ++ (List.take c_2 (cut (R ++ []) p c_2) ++ List.drop (addN (0) (Int.toNat (IntKind.wrap IntKind.i64 (i + @Nat.cast Int _ (1)))) + List.length (List.take c_2 (cut (R ++ []) p c_2))) rs_1) = rs → bif decide (n ≤ List.length rs) && List.all rs fun r => List.all r D.keeps then K (DV.c (D.s (1) (3) (List.take n rs) (List.take (n - n) (List.drop n rs)))) else False else False else False else False else False else False else bif decide (0 ≤ i) && (decide (i ≤ @Nat.cast Int _ (List.length R)) && decide (@Nat.cast Int _ (List.length R) ≤ @Nat.cast Int _ cap)) then bif Nat.beq (Int.toNat i) (OfNat.ofNat (0)) || decide (Int.toNat i + 1 ≤ cap) then ∀ (p q r : Nat), addN (0) (Int.toNat i) = p → Int.toNat (@Nat.cast Int _ (List.length R)) - Int.toNat i = q → cap - Int.toNat i = r → False else False else False else False else False else False else False else False else False else False else False else False else False else bif true && (decide (0 ≤ IntKind.wrap IntKind.i64 (@Nat.cast Int _ (List.length R) + @Nat.cast Int _ (1))) && decide (IntKind.wrap IntKind.i64 (@Nat.cast Int _ (List.length R) + @Nat.cast Int _ (1)) ≤ @Nat.cast Int _ cap)) then ∀ (p q r : Nat), 0 = p → Int.toNat (IntKind.wrap IntKind.i64 (@Nat.cast Int _ (List.length R) + @Nat.cast Int _ (1))) - 0 = q → cap - 0 = r → bif decide (0 ≤ IntKind.wrap IntKind.i64 (i + @Nat.cast Int _ (1))) && (decide (IntKind.wrap IntKind.i64 (i + @Nat.cast Int _ (1)) ≤ @Nat.cast Int _ q) && decide (@Nat.cast Int _ q ≤ @Nat.cast Int _ r)) then bif Nat.beq (Int.toNat (IntKind.wrap IntKind.i64 (i + @Nat.cast Int _ (1)))) (OfNat.ofNat (0)) || decide (Int.toNat (IntKind.wrap IntKind.i64 (i + @Nat.cast Int _ (1))) + 1 ≤ r) then ∀ (p_1 q_1 r_1 : Nat), addN p (Int.toNat (IntKind.wrap IntKind.i64 (i + @Nat.cast Int _ (1)))) = p_1 → Int.toNat (@Nat.cast Int _ q) - Int.toNat (IntKind.wrap IntKind.i64 (i + @Nat.cast Int _ (1))) = q_1 → r - Int.toNat (IntKind.wrap IntKind.i64 (i + @Nat.cast Int _ (1))) = r_1 → bif decide (1 ≤ 1) && decide (1 ≤ q_1) then ZhW Tryz.prog (181) ∧ bif decide (0 ≤ IntKind.wrap IntKind.i64 (i + @Nat.cast Int _ (1))) && (decide (IntKind.wrap IntKind.i64 (i + @Nat.cast Int _ (1)) ≤ @Nat.cast Int _ q) && decide (@Nat.cast Int _ q ≤ @Nat.cast Int _ r)) then bif Nat.beq (Int.toNat (IntKind.wrap IntKind.i64 (i + @Nat.cast Int _ (1)))) (OfNat.ofNat (0)) || decide (Int.toNat (IntKind.wrap IntKind.i64 (i + @Nat.cast Int _ (1))) + 1 ≤ r) then ∀ (p_2 q_2 r_2 : Nat), addN p (Int.toNat (IntKind.wrap IntKind.i64 (i + @Nat.cast Int _ (1)))) = p_2 → Int.toNat (@Nat.cast Int _ q) - Int.toNat (IntKind.wrap IntKind.i64 (i + @Nat.cast Int _ (1))) = q_2 → r - Int.toNat (IntKind.wrap IntKind.i64 (i + @Nat.cast Int _ (1))) = r_2 → bif decide (0 ≤ i) && (decide (i ≤ @Nat.cast Int _ q) && decide (@Nat.cast Int _ q ≤ @Nat.cast Int _ r)) then bif Nat.beq (Int.toNat i) (OfNat.ofNat (0)) || decide (Int.toNat i + 1 ≤ r) then ∀ (p_3 q_3 r_3 : Nat), addN p (Int.toNat i) = p_3 → Int.toNat (@Nat.cast Int _ q) - Int.toNat i = q_3 → r - Int.toNat i = r_3 → ∀ (c_1 : Nat), min q_3 q_2 = c_1 → bif decide (p_3 + c_1 ≤ List.length (R ++ [])) then bif allV (cut (R ++ []) p_3 c_1) then bif decide (p_2 ≤ List.length (R ++ [])) && (allV (R ++ []) && decide (c_1 ≤ List.length (cut (R ++ []) p_3 c_1))) then ∀ (rs : List (List D)), List.take p_2 (R ++ []) ++ (List.take c_1 (cut (R ++ []) p_3 c_1) ++ List.drop (p_2 + List.length (List.take c_1 (cut (R ++ []) p_3 c_1))) (R ++ [])) = rs → bif decide (0 ≤ i) && (decide (i ≤ @Nat.cast Int _ q) && decide (@Nat.cast Int _ q ≤ @Nat.cast Int _ r)) then bif Nat.beq (Int.toNat i) (OfNat.ofNat (0)) || decide (Int.toNat i + 1 ≤ r) then ∀ (p_4 q_4 r_4 : Nat), addN p (Int.toNat i) = p_4 → Int.toNat (@Nat.cast Int _ q) - Int.toNat i = q_4 → r - Int.toNat i = r_4 → ∀ (c_2 : Nat), min (1) q_4 = c_2 → bif decide (0 + c_2 ≤ 1) then bif allV (cut [[D.v (Value.int IntKind.i64 a), D.v (Value.int IntKind.i64 b), D.v (Value.int IntKind.i64 c)]] (0) c_2) then bif decide (p_4 ≤ List.length rs) && (allV rs && decide (c_2 ≤ List.length (cut [[D.v (Value.int IntKind.i64 a), D.v (Value.int IntKind.i64 b), D.v (Value.int IntKind.i64 c)]] (0) c_2))) then ∀ (rs_1 : List (List D)), List.take p_4 rs ++ (List.take c_2 (cut [[D.v (Value.int IntKind.i64 a), D.v (Value.int IntKind.i64 b), D.v (Value.int IntKind.i64 c)]] (0) c_2) ++ List.drop (p_4 + List.length (List.take c_2 (cut [[D.v (Value.int IntKind.i64 a), D.v (Value.int IntKind.i64 b), D.v (Value.int IntKind.i64 c)]] (0) c_2))) rs) = rs_1 → bif true && (true && Nat.beq p (OfNat.ofNat (0))) then bif decide (q ≤ List.length rs_1) && List.all rs_1 fun r => List.all r D.keeps then K (DV.c (D.s (1) (3) (List.take q rs_1) (List.take (q - q) (List.drop q rs_1)))) else False else False else False else False else False else False else False else False else False else False else False else False else bif decide (0 ≤ i) && (decide (i ≤ @Nat.cast Int _ q) && decide (@Nat.cast Int _ q ≤ @Nat.cast Int _ r)) then bif Nat.beq (Int.toNat i) (OfNat.ofNat (0)) || decide (Int.toNat i + 1 ≤ r) then ∀ (p_2 q_2 r_2 : Nat), addN p (Int.toNat i) = p_2 → Int.toNat (@Nat.cast Int _ q) - Int.toNat i = q_2 → r - Int.toNat i = r_2 → False else False else False else False else False else False else False else False else bif i == @Nat.cast Int _ (List.length R) then bif decide (List.length R ≤ List.length (R ++ [])) && (decide ((List.length R + 1) * 24 ≤ 140737488355328) && decide (List.length R + 1 ≤ 9223372036854775807)) then bif decide (List.length R + 1 ≤ List.length (List.take (List.length R) (R ++ []) ++ cut [[D.v (Value.int IntKind.i64 a), D.v (Value.int IntKind.i64 b), D.v (Value.int IntKind.i64 c)]] (0) (1))) && List.all (List.take (List.length R) (R ++ []) ++ cut [[D.v (Value.int IntKind.i64 a), D.v (Value.int IntKind.i64 b), D.v (Value.int IntKind.i64 c)]] (0) (1)) fun r => List.all r D.keeps then K (DV.c (D.s (1) (3) (List.take (List.length R + 1) (List.take (List.length R) (R ++ []) ++ cut [[D.v (Value.int IntKind.i64 a), D.v (Value.int IntKind.i64 b), D.v (Value.int IntKind.i64 c)]] (0) (1))) (List.take (List.length R + 1 - (List.length R + 1)) (List.drop (List.length R + 1) (List.take (List.length R) (R ++ []) ++ cut [[D.v (Value.int IntKind.i64 a), D.v (Value.int IntKind.i64 b), D.v (Value.int IntKind.i64 c)]] (0) (1)))))) else False else False else bif decide (IntKind.wrap IntKind.i64 (@Nat.cast Int _ (List.length R) + @Nat.cast Int _ (1)) > @Nat.cast Int _ cap) then bif true && (decide (0 ≤ i) && decide (i ≤ @Nat.cast Int _ cap)) then ∀ (p q r : Nat), 0 = p → Int.toNat i - 0 = q → cap - 0 = r → bif decide (p + q ≤ List.length (R ++ [])) then bif allV (cut (R ++ []) p q) then bif decide (1 ≤ IntKind.wrap IntKind.i64 (IntKind.wrap IntKind.i64 (@Nat.cast Int _ (List.length R) + @Nat.cast Int _ (1)) - i)) && (decide (r < q + Int.toNat (IntKind.wrap IntKind.i64 (IntKind.wrap IntKind.i64 (@Nat.cast Int _ (List.length R) + @Nat.cast Int _ (1)) - i))) && (decide ((q + Int.toNat (IntKind.wrap IntKind.i64 (IntKind.wrap IntKind.i64 (@Nat.cast Int _ (List.length R) + @Nat.cast Int _ (1)) - i))) * 24 ≤ 140737488355328) && decide (q + Int.toNat (IntKind.wrap IntKind.i64 (IntKind.wrap IntKind.i64 (@Nat.cast Int _ (List.length R) + @Nat.cast Int _ (1)) - i)) ≤ 9223372036854775807))) then ∀ (n : Nat) (rs : List (List D)), q + Int.toNat (IntKind.wrap IntKind.i64 (IntKind.wrap IntKind.i64 (@Nat.cast Int _ (List.length R) + @Nat.cast Int _ (1)) - i)) = n → cut (R ++ []) p q ++ List.replicate (Int.toNat (IntKind.wrap IntKind.i64 (IntKind.wrap IntKind.i64 (@Nat.cast Int _ (List.length R) + @Nat.cast Int _ (List.length [[vI a, vI b, vI c]])) - i))) (List.map D.v ((fun x => (Value.cells x).toList) (Value.agg #[Value.int IntKind.i64 (0), Value.int IntKind.i64 (0), Value.int IntKind.i64 (0)]))) = rs → bif decide (0 ≤ i) && (decide (i ≤ @Nat.cast Int _ n) && decide (@Nat.cast Int _ n ≤ @Nat.cast Int _ n)) then bif Nat.beq (Int.toNat i) (OfNat.ofNat (0)) || decide (Int.toNat i + 1 ≤ n) then ∀ (c_1 : Nat), min (1) (Int.toNat (@Nat.cast Int _ n) - Int.toNat i) = c_1 → bif decide (0 + c_1 ≤ 1) then bif allV (cut [[D.v (Value.int IntKind.i64 a), D.v (Value.int IntKind.i64 b), D.v (Value.int IntKind.i64 c)]] (0) c_1) then bif decide (addN (0) (Int.toNat i) ≤ List.length rs) && (allV rs && decide (c_1 ≤ List.length (cut [[D.v (Value.int IntKind.i64 a), D.v (Value.int IntKind.i64 b), D.v (Value.int IntKind.i64 c)]] (0) c_1))) then ∀ (rs_1 : List (List D)), List.take (addN (0) (Int.toNat i)) rs ++ (List.take c_1 (cut [[D.v (Value.int IntKind.i64 a), D.v (Value.int IntKind.i64 b), D.v (Value.int IntKind.i64 c)]] (0) c_1) ++ List.drop (addN (0) (Int.toNat i) + List.length (List.take c_1 (cut [[D.v (Value.int IntKind.i64 a), D.v (Value.int IntKind.i64 b), D.v (Value.int IntKind.i64 c)]] (0) c_1))) rs) = rs_1 → bif decide (0 ≤ IntKind.wrap IntKind.i64 (i + @Nat.cast Int _ (1))) && (decide (IntKind.wrap IntKind.i64 (i + @Nat.cast Int _ (1)) ≤ @Nat.cast Int _ n) && decide (@Nat.cast Int _ n ≤ @Nat.cast Int _ n)) then bif Nat.beq (Int.toNat (IntKind.wrap IntKind.i64 (i + @Nat.cast Int _ (1)))) (OfNat.ofNat (0)) || decide (Int.toNat (IntKind.wrap IntKind.i64 (i + @Nat.cast Int _ (1))) + 1 ≤ n) then bif decide (0 ≤ i) && (decide (i ≤ @Nat.cast Int _ (List.length R)) && decide (@Nat.cast Int _ (List.length R) ≤ @Nat.cast Int _ cap)) then bif Nat.beq (Int.toNat i) (OfNat.ofNat (0)) || decide (Int.toNat i + 1 ≤ cap) then ∀ (p q r : Nat), addN (0) (Int.toNat i) = p → Int.toNat (@Nat.cast Int _ (List.length R)) - Int.toNat i = q → cap - Int.toNat i = r → ∀ (c_2 : Nat), min q (Int.toNat (@Nat.cast Int _ n) - Int.toNat (IntKind.wrap IntKind.i64 (i + @Nat.cast Int _ (1)))) = c_2 → bif decide (p + c_2 ≤ List.length (R ++ [])) then bif allV (cut (R ++ []) p c_2) then bif decide (addN (0) (Int.toNat (IntKind.wrap IntKind.i64 (i + @Nat.cast Int _ (1)))) ≤ List.length rs_1) && (allV rs_1 && decide (c_2 ≤ List.length (cut (R ++ []) p c_2))) then ∀ (rs : List (List D)), List.take (addN (0) (Int.toNat (IntKind.wrap IntKind.i64 (i + @Nat.cast Int _ (1))))) rs_1 ++ (List.take c_2 (cut (R ++ []) p c_2) ++ List.drop (addN (0) (Int.toNat (IntKind.wrap IntKind.i64 (i + @Nat.cast Int _ (1)))) + List.length (List.take c_2 (cut (R ++ []) p c_2))) rs_1) = rs → bif decide (n ≤ List.length rs) && List.all rs fun r => List.all r D.keeps then K (DV.c (D.s (1) (3) (List.take n rs) (List.take (n - n) (List.drop n rs)))) else False else False else False else False else False else False else bif decide (0 ≤ i) && (decide (i ≤ @Nat.cast Int _ (List.length R)) && decide (@Nat.cast Int _ (List.length R) ≤ @Nat.cast Int _ cap)) then bif Nat.beq (Int.toNat i) (OfNat.ofNat (0)) || decide (Int.toNat i + 1 ≤ cap) then ∀ (p q r : Nat), addN (0) (Int.toNat i) = p → Int.toNat (@Nat.cast Int _ (List.length R)) - Int.toNat i = q → cap - Int.toNat i = r → False else False else False else False else False else False else False else False else False else False else False else False else False else bif true && (decide (0 ≤ IntKind.wrap IntKind.i64 (@Nat.cast Int _ (List.length R) + @Nat.cast Int _ (1))) && decide (IntKind.wrap IntKind.i64 (@Nat.cast Int _ (List.length R) + @Nat.cast Int _ (1)) ≤ @Nat.cast Int _ cap)) then ∀ (p q r : Nat), 0 = p → Int.toNat (IntKind.wrap IntKind.i64 (@Nat.cast Int _ (List.length R) + @Nat.cast Int _ (1))) - 0 = q → cap - 0 = r → bif decide (0 ≤ IntKind.wrap IntKind.i64 (i + @Nat.cast Int _ (1))) && (decide (IntKind.wrap IntKind.i64 (i + @Nat.cast Int _ (1)) ≤ @Nat.cast Int _ q) && decide (@Nat.cast Int _ q ≤ @Nat.cast Int _ r)) then bif Nat.beq (Int.toNat (IntKind.wrap IntKind.i64 (i + @Nat.cast Int _ (1)))) (OfNat.ofNat (0)) || decide (Int.toNat (IntKind.wrap IntKind.i64 (i + @Nat.cast Int _ (1))) + 1 ≤ r) then ∀ (p_1 q_1 r_1 : Nat), addN p (Int.toNat (IntKind.wrap IntKind.i64 (i + @Nat.cast Int _ (1)))) = p_1 → Int.toNat (@Nat.cast Int _ q) - Int.toNat (IntKind.wrap IntKind.i64 (i + @Nat.cast Int _ (1))) = q_1 → r - Int.toNat (IntKind.wrap IntKind.i64 (i + @Nat.cast Int _ (1))) = r_1 → bif decide (1 ≤ 1) && decide (1 ≤ q_1) then ZhW Tryz.prog (181) ∧ bif decide (0 ≤ IntKind.wrap IntKind.i64 (i + @Nat.cast Int _ (1))) && (decide (IntKind.wrap IntKind.i64 (i + @Nat.cast Int _ (1)) ≤ @Nat.cast Int _ q) && decide (@Nat.cast Int _ q ≤ @Nat.cast Int _ r)) then bif Nat.beq (Int.toNat (IntKind.wrap IntKind.i64 (i + @Nat.cast Int _ (1)))) (OfNat.ofNat (0)) || decide (Int.toNat (IntKind.wrap IntKind.i64 (i + @Nat.cast Int _ (1))) + 1 ≤ r) then ∀ (p_2 q_2 r_2 : Nat), addN p (Int.toNat (IntKind.wrap IntKind.i64 (i + @Nat.cast Int _ (1)))) = p_2 → Int.toNat (@Nat.cast Int _ q) - Int.toNat (IntKind.wrap IntKind.i64 (i + @Nat.cast Int _ (1))) = q_2 → r - Int.toNat (IntKind.wrap IntKind.i64 (i + @Nat.cast Int _ (1))) = r_2 → bif decide (0 ≤ i) && (decide (i ≤ @Nat.cast Int _ q) && decide (@Nat.cast Int _ q ≤ @Nat.cast Int _ r)) then bif Nat.beq (Int.toNat i) (OfNat.ofNat (0)) || decide (Int.toNat i + 1 ≤ r) then ∀ (p_3 q_3 r_3 : Nat), addN p (Int.toNat i) = p_3 → Int.toNat (@Nat.cast Int _ q) - Int.toNat i = q_3 → r - Int.toNat i = r_3 → ∀ (c_1 : Nat), min q_3 q_2 = c_1 → bif decide (p_3 + c_1 ≤ List.length (R ++ [])) then bif allV (cut (R ++ []) p_3 c_1) then bif decide (p_2 ≤ List.length (R ++ [])) && (allV (R ++ []) && decide (c_1 ≤ List.length (cut (R ++ []) p_3 c_1))) then ∀ (rs : List (List D)), List.take p_2 (R ++ []) ++ (List.take c_1 (cut (R ++ []) p_3 c_1) ++ List.drop (p_2 + List.length (List.take c_1 (cut (R ++ []) p_3 c_1))) (R ++ [])) = rs → bif decide (0 ≤ i) && (decide (i ≤ @Nat.cast Int _ q) && decide (@Nat.cast Int _ q ≤ @Nat.cast Int _ r)) then bif Nat.beq (Int.toNat i) (OfNat.ofNat (0)) || decide (Int.toNat i + 1 ≤ r) then ∀ (p_4 q_4 r_4 : Nat), addN p (Int.toNat i) = p_4 → Int.toNat (@Nat.cast Int _ q) - Int.toNat i = q_4 → r - Int.toNat i = r_4 → ∀ (c_2 : Nat), min (1) q_4 = c_2 → bif decide (0 + c_2 ≤ 1) then bif allV (cut [[D.v (Value.int IntKind.i64 a), D.v (Value.int IntKind.i64 b), D.v (Value.int IntKind.i64 c)]] (0) c_2) then bif decide (p_4 ≤ List.length rs) && (allV rs && decide (c_2 ≤ List.length (cut [[D.v (Value.int IntKind.i64 a), D.v (Value.int IntKind.i64 b), D.v (Value.int IntKind.i64 c)]] (0) c_2))) then ∀ (rs_1 : List (List D)), List.take p_4 rs ++ (List.take c_2 (cut [[D.v (Value.int IntKind.i64 a), D.v (Value.int IntKind.i64 b), D.v (Value.int IntKind.i64 c)]] (0) c_2) ++ List.drop (p_4 + List.length (List.take c_2 (cut [[D.v (Value.int IntKind.i64 a), D.v (Value.int IntKind.i64 b), D.v (Value.int IntKind.i64 c)]] (0) c_2))) rs) = rs_1 → bif true && (true && Nat.beq p (OfNat.ofNat (0))) then bif decide (q ≤ List.length rs_1) && List.all rs_1 fun r => List.all r D.keeps then K (DV.c (D.s (1) (3) (List.take q rs_1) (List.take (q - q) (List.drop q rs_1)))) else False else False else False else False else False else False else False else False else False else False else False else False else bif decide (0 ≤ i) && (decide (i ≤ @Nat.cast Int _ q) && decide (@Nat.cast Int _ q ≤ @Nat.cast Int _ r)) then bif Nat.beq (Int.toNat i) (OfNat.ofNat (0)) || decide (Int.toNat i + 1 ≤ r) then ∀ (p_2 q_2 r_2 : Nat), addN p (Int.toNat i) = p_2 → Int.toNat (@Nat.cast Int _ q) - Int.toNat i = q_2 → r - Int.toNat i = r_2 → False else False else False else False else False else False else False else False else False) := by kernel_rfl
theorem ZwK (a b c : Int) (K : DV → Prop) : (evp Tryz.prog hIns 200 (Zao Tryz.f140) (finX Tryz.prog Tryz.f140 K) (Zbz Tryz.f140.ntmps [oS 3 [] [], I 0, oS 3 [[vI a, vI b, vI c]] []])) = (K (DV.c (D.s (1) (3) [[D.v (Value.int IntKind.i64 a), D.v (Value.int IntKind.i64 b), D.v (Value.int IntKind.i64 c)]] []))) := by kernel_rfl
theorem cnd {b : Bool} {p q : Prop} (h : b = true) (hp : p) : cond b p q := by rw [h]; exact hp
theorem cndF {b : Bool} {p q : Prop} (h : b = false) (hq : q) : cond b p q := by rw [h]; exact hq
def ins {α : Type} (l : List α) (j : Nat) (x : α) : List α := l.take j ++ x :: l.drop j
theorem ZtI {α : Type} {l : List α} {j : Nat} {x : α} (h : j ≤ l.length) : (ins l j x).length = l.length + 1 := by simp [ins]; omega
theorem Zwu {l : List (List D)} {j : Nat} {x : List D} (h : j ≤ l.length) (z : List D) : List.take (j + 1) (List.take j (List.take j l ++ List.replicate (l.length + 1 - j) z) ++ ([x] ++ List.drop (j + 1) (List.take j l ++ List.replicate (l.length + 1 - j) z))) ++ (l.drop j ++ List.drop (l.length + 1) (List.take j (List.take j l ++ List.replicate (l.length + 1 - j) z) ++ ([x] ++ List.drop (j + 1) (List.take j l ++ List.replicate (l.length + 1 - j) z)))) = ins l j x := by
  have h1 : (List.take j l).length = j := by simp; omega
  have h2 : List.take j (List.take j l ++ List.replicate (l.length + 1 - j) z) = List.take j l := by rw [List.take_append_of_le_length (by omega), List.take_take, Nat.min_self]
  rw [h2]
  have h3 : List.take (j + 1) (List.take j l ++ ([x] ++ List.drop (j + 1) (List.take j l ++ List.replicate (l.length + 1 - j) z))) = List.take j l ++ [x] := by
    rw [← List.append_assoc, List.take_append_of_le_length (by simp; omega)]
    rw [List.take_of_length_le (by simp; omega)]
  have h4 : List.drop (l.length + 1) (List.take j l ++ ([x] ++ List.drop (j + 1) (List.take j l ++ List.replicate (l.length + 1 - j) z))) = [] := by
    apply List.drop_eq_nil_of_le
    simp; omega
  rw [h3, h4]
  simp [ins]
theorem ZbX {l m : List (List D)} (h : allV l = true) (h2 : allV m = true) : allV (l ++ m) = true := by
  unfold allV at *; rw [List.all_append, h, h2]; rfl
theorem ZcV {l : List (List D)} (h : allV l = true) (n : Nat) : allV (l.take n) = true := List.all_eq_true.2 fun r hr => List.all_eq_true.1 h r (List.mem_of_mem_take hr)
theorem ZcY {l : List (List D)} (h : allV l = true) (n : Nat) : allV (l.drop n) = true := List.all_eq_true.2 fun r hr => List.all_eq_true.1 h r (List.mem_of_mem_drop hr)
theorem Zmn {l : List (List D)} {r : List D} (h : allV l = true) (hr : r.all D.isV = true) (j : Nat) : allV (ins l j r) = true := ZbX (ZcV h j) (by unfold allV; rw [List.all_cons, hr]; exact ZcY h j)
theorem Zwt {l : List (List D)} {j : Nat} {x : List D} (h : j < l.length) : List.take j (List.take (j + 1) l ++ (List.drop j l ++ List.drop (j + 1 + (l.length - j)) l)) ++ ([x] ++ List.drop (j + 1) (List.take (j + 1) l ++ (List.drop j l ++ List.drop (j + 1 + (l.length - j)) l))) = ins l j x := by
  have h4 : List.drop (j + 1 + (l.length - j)) l = [] := List.drop_eq_nil_of_le (by omega)
  rw [h4, List.append_nil]
  have h1 : (List.take (j + 1) l).length = j + 1 := by rw [List.length_take, Nat.min_eq_left (by omega)]
  rw [List.take_append_of_le_length (by omega), List.take_take, Nat.min_eq_left (by omega), List.drop_append_of_le_length (by omega), List.drop_eq_nil_of_le (by omega), List.nil_append]
  rfl
theorem cut0 {l : List (List D)} {n : Nat} : cut l 0 n = l.take n := by simp [cut]
theorem cutd {l : List (List D)} {p n : Nat} (h : p + n = l.length) : cut l p n = l.drop p := by
  unfold cut; rw [List.take_of_length_le (by simp; omega)]
theorem Zt8 {R : List (List D)} {j : Nat} {a b c : Int} {cap : Nat} (hR : allV R = true) (hj : j ≤ R.length) (hn : R.length ≤ 5864062014634) (hc : R.length ≤ cap) (K : DV → Prop)
    (hK : K (.c (.s 1 3 (ins R j [vI a, vI b, vI c]) []))) :
    evp Tryz.prog hIns 200 (Zao Tryz.f140) (finX Tryz.prog Tryz.f140 K) ((Zbz Tryz.f140.ntmps [oS 3 R [], I j, oS 3 [[vI a, vI b, vI c]] []]).setT 0 (.rx 1000000 1 3 0 R.length cap)) := by
  rw [Zww]
  have w1 : IntKind.wrap .i64 ((R.length : Int) + ((1 : Nat) : Int)) = ((R.length + 1 : Nat) : Int) := by rw [IntKind.wrap_i64]; omega
  have w2 : IntKind.wrap .i64 (((R.length + 1 : Nat) : Int) - (j : Int)) = ((R.length + 1 - j : Nat) : Int) := by rw [IntKind.wrap_i64]; omega
  have w3 : IntKind.wrap .i64 ((j : Int) + ((1 : Nat) : Int)) = ((j + 1 : Nat) : Int) := by rw [IntKind.wrap_i64]; omega
  have hL1 : ([[vI a, vI b, vI c]] : List (List D)).length = 1 := rfl
  have hx : ([[vI a, vI b, vI c]] : List (List D)).all (fun r => r.all D.isV) = true := rfl
  have a0 : ∀ n, addN 0 n = n := fun n => by rw [Zdc]; omega
  simp only [hL1, w1, w2, w3, Int.toNat_natCast, List.append_nil, Nat.sub_zero, a0]
  have hkeep : ∀ l : List (List D), allV l = true → (l.all fun r => r.all D.keeps) = true := fun l hl => Zaq hl
  have hi : allV (ins R j [vI a, vI b, vI c]) = true := Zmn hR rfl j
  have hil := ZtI (x := [vI a, vI b, vI c]) hj
  have hu : ZhW Tryz.prog 181 := ZsT
  generalize hW : ([D.v (Value.int IntKind.i64 a), D.v (Value.int IntKind.i64 b), D.v (Value.int IntKind.i64 c)] : List D) = W
  have hWv : allV [W] = true := by rw [← hW]; rfl
  have hWi : ins R j [vI a, vI b, vI c] = ins R j W := by rw [← hW]
  rw [hWi] at hK hi hil
  have hW1 : ∀ n, cut [W] 0 n = [W].take n := fun n => cut0
  have ht1 : [W].take 1 = [W] := rfl
  refine cnd (by simp only [Bool.and_eq_true, decide_eq_true_eq]; omega) ?_
  have p1 : j = R.length → ∀ X Y : Prop, bif decide (R.length ≤ R.length) && (decide ((R.length + 1) * 24 ≤ 140737488355328) && decide (R.length + 1 ≤ 9223372036854775807)) then bif decide (R.length + 1 ≤ List.length (List.take R.length R ++ cut [W] 0 1)) && List.all (List.take R.length R ++ cut [W] 0 1) (fun r => List.all r D.keeps) then K (DV.c (D.s 1 3 (List.take (R.length + 1) (List.take R.length R ++ cut [W] 0 1)) (List.take (R.length + 1 - (R.length + 1)) (List.drop (R.length + 1) (List.take R.length R ++ cut [W] 0 1))))) else X else Y := fun hjn X Y => by
    subst hjn
    have e1 : List.take R.length R ++ cut [W] 0 1 = ins R R.length W := by simp [ins, hW1, ht1]
    have e2 : List.take (R.length + 1) (ins R R.length W) = ins R R.length W := List.take_of_length_le (by omega)
    rw [e1, e2]
    refine cnd (by simp only [Bool.and_eq_true, decide_eq_true_eq]; omega) (cnd (by rw [hil, hkeep _ hi]; simp) ?_)
    simp only [Nat.sub_self, List.take_zero]
    exact hK
  cases hq : (Nat.beq j (OfNat.ofNat 0) || decide (j + 1 ≤ cap)) with
  | false =>
    simp only [cond_false]
    have hjn : j = R.length := by simp at hq; omega
    refine cnd (by simp [hjn]) (p1 hjn _ _)
  | true =>
    simp only [cond_true]
    intro _ _ _ _ _ _
    by_cases hjn : j = R.length
    · exact cnd (by simp [hjn]) (p1 hjn _ _)
    · have hjl : j < R.length := by omega
      have hq2 : (Nat.beq j (OfNat.ofNat 0) || decide (j + 1 ≤ cap)) = true := by simp; omega
      clear hq
      have hji : ((j : Int) == (R.length : Int)) = false := by simp; omega
      rw [hji]
      simp only [cond_false]
      by_cases hg : cap < R.length + 1
      · refine cnd (by simp; omega) (cnd (by simp; omega) ?_)
        intro _ _ _ h1 h2 h3
        subst h1 h2 h3
        refine cnd (by simp; omega) (cnd (by rw [cut0]; exact ZcV hR _) (cnd (by simp only [Bool.and_eq_true, decide_eq_true_eq]; omega) ?_))
        intro n rs h1 h2
        have hn' : n = R.length + 1 := by omega
        subst hn'
        rw [cut0] at h2
        generalize hZ : (List.map D.v ((fun x => (Value.cells x).toList) (Value.agg #[Value.int IntKind.i64 0, Value.int IntKind.i64 0, Value.int IntKind.i64 0]))) = Z at h2
        have hZv : Z.all D.isV = true := by rw [← hZ]; rfl
        have hrv : allV rs = true := by
          rw [← h2]
          refine ZbX (ZcV hR _) (List.all_eq_true.2 fun r hr => ?_)
          rw [(List.mem_replicate.1 hr).2]; exact hZv
        have hrl : rs.length = R.length + 1 := by rw [← h2, List.length_append, List.length_replicate, List.length_take]; omega
        refine cnd (by simp only [Bool.and_eq_true, decide_eq_true_eq]; omega) (cnd (by simp; omega) ?_)
        intro c1 hc1
        have hc1 : c1 = 1 := by rw [← hc1]; exact Nat.min_eq_left (by omega)
        subst hc1
        simp only [hW1, ht1]
        refine cnd (by simp) (cnd hWv (cnd (by rw [hrv]; simp; omega) ?_))
        intro rs1 h3
        have h3l : rs1.length = R.length + 1 := by rw [← h3]; simp; omega
        have h3v : allV rs1 = true := by rw [← h3]; exact ZbX (ZcV hrv _) (ZbX hWv (ZcY hrv _))
        refine cnd (by simp only [Bool.and_eq_true, decide_eq_true_eq]; omega) (cnd (by simp; omega) (cnd (by simp only [Bool.and_eq_true, decide_eq_true_eq]; omega) ?_))
        intro _ _ _ h4 h5 h6 c2 hc2
        subst h4 h5 h6
        have hc2 : c2 = R.length - j := by omega
        subst hc2
        rw [cutd (by omega)]
        have hdl : (List.drop j R).length = R.length - j := by simp
        have hdt : List.take (R.length - j) (List.drop j R) = List.drop j R := List.take_of_length_le (by omega)
        refine cnd (by simp; omega) (cnd (ZcY hR _) (cnd (by rw [h3v]; simp; omega) ?_))
        intro rs2 h7
        have h8 : rs2 = ins R j W := by
          rw [← h7, hdt, ← h3, ← h2]
          simp only [List.length_singleton]
          rw [show j + 1 + (List.drop j R).length = R.length + 1 by omega]
          exact Zwu hj Z
        subst h8
        refine cnd (by rw [hil, hkeep _ hi]; simp) ?_
        rw [List.take_of_length_le (by omega)]
        simp only [Nat.sub_self, List.take_zero]
        exact hK
      · refine cndF (by simp; omega) (cnd (by simp; omega) ?_)
        intro _ _ _ h1 h2 h3
        subst h1 h2 h3
        refine cnd (by simp only [Bool.and_eq_true, decide_eq_true_eq]; omega) (cnd (by simp; omega) ?_)
        intro _ _ _ h1 h2 h3
        subst h1 h2 h3
        refine cnd (by simp; omega) ⟨hu, ?_⟩
        refine cnd (by simp only [Bool.and_eq_true, decide_eq_true_eq]; omega) (cnd (by simp; omega) ?_)
        intro _ _ _ h1 h2 h3
        subst h1 h2 h3
        refine cnd (by simp only [Bool.and_eq_true, decide_eq_true_eq]; omega) (cnd (by simp; omega) ?_)
        intro _ _ _ h1 h2 h3 c1 hc1
        subst h1 h2 h3
        have hc1 : c1 = R.length - j := by omega
        subst hc1
        simp only [a0]
        rw [cutd (by omega)]
        have hdl : (List.drop j R).length = R.length - j := by simp
        have hdt : List.take (R.length - j) (List.drop j R) = List.drop j R := List.take_of_length_le (by omega)
        refine cnd (by simp; omega) (cnd (ZcY hR _) (cnd (by rw [hR]; simp; omega) ?_))
        intro rs h1
        have hrv : allV rs = true := by rw [← h1]; exact ZbX (ZcV hR _) (ZbX (ZcV (ZcY hR _) _) (ZcY hR _))
        have hrl : rs.length = R.length + 1 := by rw [← h1]; simp; omega
        refine cnd (by simp only [Bool.and_eq_true, decide_eq_true_eq]; omega) (cnd (by simp; omega) ?_)
        intro _ _ _ h2 h3 h4 c2 hc2
        subst h2 h3 h4
        have hc2 : c2 = 1 := by rw [← hc2]; exact Nat.min_eq_left (by omega)
        subst hc2
        simp only [hW1, ht1]
        refine cnd (by simp) (cnd hWv (cnd (by rw [hrv]; simp; omega) ?_))
        intro rs1 h5
        have h6 : rs1 = ins R j W := by
          rw [← h5, ← h1, hdt, hdl]
          simp only [List.length_singleton]
          exact Zwt hjl
        subst h6
        refine cnd (by rfl) (cnd (by rw [hil, hkeep _ hi]; simp) ?_)
        rw [List.take_of_length_le (by omega)]
        simp only [Nat.sub_self, List.take_zero]
        exact hK
theorem ZtO : Zaz Tryz.prog hIns (Zao Tryz.f140) := fun b hb s hs => by cases hs
theorem Zs4 (a b c : Int) : CT Tryz.prog 140 [oS 3 [] [], I 0, oS 3 [[vI a, vI b, vI c]] []] (.c (.s 1 3 [[vI a, vI b, vI c]] [])) := by
  refine Zb9 (H := hIns) Zon mixed 200 Tryz.func140 (c := Zao Tryz.f140) rfl ZtO (Nat.le_of_ble_eq_true rfl) rfl ?_
  rw [ZwK]
theorem Zr9 {R : List (List D)} {j : Nat} (a b c : Int) (hR : allV R = true) (hj : j ≤ R.length) (hn : R.length ≤ 5864062014634) (h0 : R.length ≠ 0) : CT Tryz.prog 140 [oS 3 R [], I j, oS 3 [[vI a, vI b, vI c]] []] (.c (.s 1 3 (ins R j [vI a, vI b, vI c]) [])) := by
  refine ZmH Tryz.func140 (c := Zao Tryz.f140) rfl (Nat.le_of_ble_eq_true rfl) rfl ?_
  refine ZuT (k := 1000000) (g := 1) (wd := 3) (lo := 0) (len := R.length) (kn := R.length + 0) 0 (Nat.le_of_ble_eq_true rfl) rfl (fun cap h3 h4 => ?_) (fun _ h3 _ => (h0 h3).elim)
  exact Zbh Zon mixed 200 _ _ _ ZtO (Zt8 hR hj hn h3 _ rfl)
def sIns : Spec := fun ds Q => match ds with
  | [.c (.s 1 3 R sp), .c (.v (.int .i64 j)), .c (.s 1 3 [[.v (.int .i64 a), .v (.int .i64 b), .v (.int .i64 c)]] [])] => cond (allV R && (decide (0 ≤ j) && (decide (j ≤ R.length) && decide (R.length ≤ 5864062014634)))) (Q (.c (.s 1 3 (ins R j.toNat [vI a, vI b, vI c]) []))) False
  | _ => False
theorem oIns : Zad Tryz.prog 140 sIns := o_of Tryz.func140 (by kernel_rfl) rfl fun ds Q h => by
  unfold sIns at h; split at h
  · rename_i R sp j a b c
    obtain ⟨h1, h2⟩ := Zag h
    simp only [Bool.and_eq_true, decide_eq_true_eq] at h1
    obtain ⟨q1, q2, q3, q4⟩ := h1
    obtain ⟨n, rfl⟩ := Int.eq_ofNat_of_zero_le q2
    rw [Int.toNat_natCast] at h2
    have hi : allV (ins R n [vI a, vI b, vI c]) = true := Zmn q1 rfl n
    refine ⟨_, ?_, by simp [DV.pureOwn, DV.pure1, D.pureOwn, ZaQ hi]; rfl, rfl, h2⟩
    by_cases h0 : R.length = 0
    · have hR : R = [] := List.eq_nil_of_length_eq_zero h0
      subst hR
      have hn : n = 0 := by simp at q3; omega
      subst hn
      exact (Zs4 a b c).less
    · exact (Zr9 (j := n) a b c q1 (by omega) q4 h0).less
  · exact h.elim
end

section
open Go Go.Proofs
def gW (l : List (FuncId × Spec)) : Hooks := { hkA band bor l [] with give := fun f => Nat.beq f 140 }
theorem ZwX {l : List (FuncId × Spec)} (h : SpecsOK Tryz.prog l) : Zau Tryz.prog (gW l) := ⟨fun _ _ => rfl, fun _ _ => rfl, ⟨fun _ => rfl, fun _ => rfl, fun _ => rfl⟩, fun f ds Q hq => ZeG h f ds Q hq, Zev rfl⟩
theorem Zvm (R sp : List (List D)) (a b c : Int) (K : DV → Prop) : (evp Tryz.prog (gW [(106, sWMy), (137, Zb6), (138, sBSF), (140, sIns)]) 200 (Zao Tryz.f86) (finX Tryz.prog Tryz.f86 K) (Zbz 42 [dS 3 R sp, .agg [vI a, vI b, vI c]])) = (bif okZ (3) R then bif !ZbE (toZ R) then K (DV.tup [DV.c (D.s (1) (3) [] []), DV.c (D.v (Value.int IntKind.i64 (1000)))]) else bif !ZbE (toZ [[D.v (Value.int IntKind.i64 a), D.v (Value.int IntKind.i64 b), D.v (Value.int IntKind.i64 c)]]) then K (DV.tup [DV.c (D.s (1) (3) [] []), DV.c (D.v (Value.int IntKind.i64 (1000)))]) else bif allV R && decide (List.length R ≤ 5864062014635) then bif okZ (3) R && decide (List.length R ≤ 4611686018427387903) then bif isW (toZ R) a b then bif decide (0 ≤ @Nat.cast Int _ (bsAt (ltW (toZ R) a b) (List.length (toZ R)))) && decide (@Nat.cast Int _ (bsAt (ltW (toZ R) a b) (List.length (toZ R))) < @Nat.cast Int _ (List.length R)) then bif decide (addN (0) (Int.toNat (@Nat.cast Int _ (bsAt (ltW (toZ R) a b) (List.length (toZ R))))) < List.length (R ++ [])) && decide (0 + 3 ≤ 3) then bif decide (List.length R ≤ List.length (List.set (R ++ []) (addN (0) (Int.toNat (@Nat.cast Int _ (bsAt (ltW (toZ R) a b) (List.length (toZ R)))))) (D.v (Value.int IntKind.i64 a) :: D.v (Value.int IntKind.i64 b) :: D.v (Value.int IntKind.i64 c) :: List.drop (0 + 3) (List.getD (R ++ []) (addN (0) (Int.toNat (@Nat.cast Int _ (bsAt (ltW (toZ R) a b) (List.length (toZ R)))))) [])))) && List.all (List.set (R ++ []) (addN (0) (Int.toNat (@Nat.cast Int _ (bsAt (ltW (toZ R) a b) (List.length (toZ R)))))) (D.v (Value.int IntKind.i64 a) :: D.v (Value.int IntKind.i64 b) :: D.v (Value.int IntKind.i64 c) :: List.drop (0 + 3) (List.getD (R ++ []) (addN (0) (Int.toNat (@Nat.cast Int _ (bsAt (ltW (toZ R) a b) (List.length (toZ R)))))) []))) fun r => List.all r D.keeps then K (DV.tup [DV.c (D.s (1) (3) (List.take (List.length R) (List.set (R ++ []) (addN (0) (Int.toNat (@Nat.cast Int _ (bsAt (ltW (toZ R) a b) (List.length (toZ R)))))) (D.v (Value.int IntKind.i64 a) :: D.v (Value.int IntKind.i64 b) :: D.v (Value.int IntKind.i64 c) :: List.drop (0 + 3) (List.getD (R ++ []) (addN (0) (Int.toNat (@Nat.cast Int _ (bsAt (ltW (toZ R) a b) (List.length (toZ R)))))) [])))) (List.take (List.length R + 0 - List.length R) (List.drop (List.length R) (List.set (R ++ []) (addN (0) (Int.toNat (@Nat.cast Int _ (bsAt (ltW (toZ R) a b) (List.length (toZ R)))))) (D.v (Value.int IntKind.i64 a) :: D.v (Value.int IntKind.i64 b) :: D.v (Value.int IntKind.i64 c) :: List.drop (0 + 3) (List.getD (R ++ []) (addN (0) (Int.toNat (@Nat.cast Int _ (bsAt (ltW (toZ R) a b) (List.length (toZ R)))))) [])))))), DV.c (D.v (Value.int IntKind.i64 (0)))]) else False else False else False else bif @Nat.cast Int _ (List.length R) == 16 then K (DV.tup [DV.c (D.s (1) (3) [] []), DV.c (D.v (Value.int IntKind.i64 (1000)))]) else bif decide (List.length R ≤ List.length (R ++ [])) && List.all (R ++ []) fun r => List.all r D.keeps then bif allV (R ++ []) then bif allV (List.take (List.length R) (R ++ [])) && (decide (0 ≤ @Nat.cast Int _ (bsAt (ltW (toZ R) a b) (List.length (toZ R)))) && (decide (@Nat.cast Int _ (bsAt (ltW (toZ R) a b) (List.length (toZ R))) ≤ @Nat.cast Int _ (List.length (List.take (List.length R) (R ++ [])))) && decide (List.length (List.take (List.length R) (R ++ [])) ≤ 5864062014634))) then bif decide (List.length (ins (List.take (List.length R) (R ++ [])) (Int.toNat (@Nat.cast Int _ (bsAt (ltW (toZ R) a b) (List.length (toZ R))))) [D.v (Value.int IntKind.i64 a), D.v (Value.int IntKind.i64 b), D.v (Value.int IntKind.i64 c)]) ≤ List.length (ins (List.take (List.length R) (R ++ [])) (Int.toNat (@Nat.cast Int _ (bsAt (ltW (toZ R) a b) (List.length (toZ R))))) [D.v (Value.int IntKind.i64 a), D.v (Value.int IntKind.i64 b), D.v (Value.int IntKind.i64 c)] ++ [])) && List.all (ins (List.take (List.length R) (R ++ [])) (Int.toNat (@Nat.cast Int _ (bsAt (ltW (toZ R) a b) (List.length (toZ R))))) [D.v (Value.int IntKind.i64 a), D.v (Value.int IntKind.i64 b), D.v (Value.int IntKind.i64 c)] ++ []) fun r => List.all r D.keeps then K (DV.tup [DV.c (D.s (1) (3) (List.take (List.length (ins (List.take (List.length R) (R ++ [])) (Int.toNat (@Nat.cast Int _ (bsAt (ltW (toZ R) a b) (List.length (toZ R))))) [D.v (Value.int IntKind.i64 a), D.v (Value.int IntKind.i64 b), D.v (Value.int IntKind.i64 c)])) (ins (List.take (List.length R) (R ++ [])) (Int.toNat (@Nat.cast Int _ (bsAt (ltW (toZ R) a b) (List.length (toZ R))))) [D.v (Value.int IntKind.i64 a), D.v (Value.int IntKind.i64 b), D.v (Value.int IntKind.i64 c)] ++ [])) (List.take (List.length (ins (List.take (List.length R) (R ++ [])) (Int.toNat (@Nat.cast Int _ (bsAt (ltW (toZ R) a b) (List.length (toZ R))))) [D.v (Value.int IntKind.i64 a), D.v (Value.int IntKind.i64 b), D.v (Value.int IntKind.i64 c)]) + 0 - List.length (ins (List.take (List.length R) (R ++ [])) (Int.toNat (@Nat.cast Int _ (bsAt (ltW (toZ R) a b) (List.length (toZ R))))) [D.v (Value.int IntKind.i64 a), D.v (Value.int IntKind.i64 b), D.v (Value.int IntKind.i64 c)])) (List.drop (List.length (ins (List.take (List.length R) (R ++ [])) (Int.toNat (@Nat.cast Int _ (bsAt (ltW (toZ R) a b) (List.length (toZ R))))) [D.v (Value.int IntKind.i64 a), D.v (Value.int IntKind.i64 b), D.v (Value.int IntKind.i64 c)])) (ins (List.take (List.length R) (R ++ [])) (Int.toNat (@Nat.cast Int _ (bsAt (ltW (toZ R) a b) (List.length (toZ R))))) [D.v (Value.int IntKind.i64 a), D.v (Value.int IntKind.i64 b), D.v (Value.int IntKind.i64 c)] ++ [])))), DV.c (D.v (Value.int IntKind.i64 (0)))]) else False else False else False else False else False else False else False) := by kernel_rfl
theorem Zk2 (p : Nat → Bool) (m n : Nat) (h1 : ∀ h, h < m → p h = true) (h2 : ∀ h, m ≤ h → h < n → p h = false) : ∀ (f i j : Nat), j - i ≤ f → i ≤ m → m ≤ j → j ≤ n → bsR p f i j = m
  | 0, i, j, h, hi, hj, _ => by simp only [bsR]; omega
  | f + 1, i, j, h, hi, hj, hn => by
    by_cases hij : i < j
    · simp only [bsR, hij, decide_true, cond_true]
      by_cases hm : (i + j) / 2 < m
      · rw [h1 _ hm]; exact Zk2 p m n h1 h2 f _ _ (by omega) (by omega) hj hn
      · rw [h2 _ (by omega) (by omega)]; exact Zk2 p m n h1 h2 f _ _ (by omega) hi (by omega) (by omega)
    · simp only [bsR, hij, decide_false, cond_false]; omega
def ZaP (l : List (List Int)) (k : Int) : Nat := (l.takeWhile fun r => decide (key r < k)).length
theorem Zdj (l : List (List Int)) (k : Int) : ZaP l k ≤ l.length := (List.takeWhile_prefix _).length_le
theorem ZhI (l : List (List Int)) (k : Int) : l.take (ZaP l k) = l.takeWhile fun r => decide (key r < k) := by
  have := List.takeWhile_prefix (l := l) fun r => decide (key r < k)
  exact (List.prefix_iff_eq_take.1 this).symm
theorem ZeJ {l : List (List Int)} {k : Int} {h : Nat} (hh : h < ZaP l k) : key (l.getD h []) < k := by
  have hl : h < l.length := Nat.lt_of_lt_of_le hh (Zdj l k)
  have e := ZhI l k
  have hm : l[h] ∈ l.takeWhile fun r => decide (key r < k) := by
    rw [← e]
    exact List.mem_take_iff_getElem.2 ⟨h, by omega, rfl⟩
  have := List.all_eq_true.1 (List.all_takeWhile (l := l) (p := fun r => decide (key r < k))) _ hm
  simpa [List.getD_eq_getElem?_getD, hl] using this
theorem ZfZ {l : List (List Int)} {k : Int} (hh : ZaP l k < l.length) : k ≤ key (l.getD (ZaP l k) []) := by
  have e : l.dropWhile (fun r => decide (key r < k)) = l.drop (ZaP l k) := by
    have h1 := List.takeWhile_append_dropWhile (p := fun r => decide (key r < k)) (l := l)
    have h2 := List.take_append_drop (ZaP l k) l
    rw [ZhI] at h2
    exact List.append_cancel_left (h1.trans h2.symm)
  obtain ⟨x, hd, hx⟩ : ∃ x, l.drop (ZaP l k) = x :: l.drop (ZaP l k + 1) ∧ l.getD (ZaP l k) [] = x := ⟨l[ZaP l k]'hh, List.drop_eq_getElem_cons hh, by simp [List.getD_eq_getElem?_getD, hh]⟩
  have hne : l.dropWhile (fun r => decide (key r < k)) ≠ [] := by rw [e, hd]; simp
  have := List.head_dropWhile_not (fun r => decide (key r < k)) (l := l) hne
  have h3 : (l.dropWhile (fun r => decide (key r < k))).head hne = x := by
    simp only [e, hd, List.head_cons]
  rw [h3] at this
  rw [hx]
  simpa using this
theorem Zi5 {l : List (List Int)} (h : okWs l) : ∀ (i j : Nat), i < j → j < l.length → key (l.getD i []) < key (l.getD j []) := by
  intro i j hij
  induction j with
  | zero => omega
  | succ j ih =>
    intro hj
    have h1 := (h (j + 1) hj).2 (by omega)
    rw [Nat.add_sub_cancel] at h1
    by_cases e : i = j
    · subst e; exact h1
    · have := ih (by omega) (by omega); omega
theorem Zj7 {l : List (List Int)} (h : okWs l) {a b : Int} (ha : 0 ≤ a ∧ a ≤ 3) (hb : 0 ≤ b ∧ b ≤ 3) : bsAt (ltW l a b) l.length = ZaP l (4 * a + b) := by
  refine Zk2 _ _ l.length (fun i hi => ?_) (fun i hi hn => ?_) _ _ _ (Nat.le_refl _) (Nat.zero_le _) (Zdj _ _) (Nat.le_refl _)
  · have hl : i < l.length := Nat.lt_of_lt_of_le hi (Zdj _ _)
    exact decide_eq_true ((Zha (Zca (h i hl).1).1 ha hb).1.2 (ZeJ hi))
  · have hlm : ZaP l (4 * a + b) < l.length := by omega
    have h1 := ZfZ hlm
    have h2 : key (l.getD (ZaP l (4 * a + b)) []) ≤ key (l.getD i []) := by
      by_cases e : i = ZaP l (4 * a + b)
      · rw [e]; exact Int.le_refl _
      · exact Int.le_of_lt (Zi5 h _ _ (by omega) hn)
    refine decide_eq_false fun hlt => ?_
    have := (Zha (Zca (h i hn).1).1 ha hb).1.1 hlt
    omega
def hasW (l : List (List Int)) (k : Int) : Bool := decide (ZaP l k < l.length) && decide (key (l.getD (ZaP l k) []) = k)
theorem Ztu {l : List (List Int)} (h : okWs l) {a b : Int} (ha : 0 ≤ a ∧ a ≤ 3) (hb : 0 ≤ b ∧ b ≤ 3) : isW l a b = hasW l (4 * a + b) := by
  unfold isW hasW
  rw [Zj7 h ha hb]
  by_cases hl : ZaP l (4 * a + b) < l.length
  · have := (Zha (Zca (h _ hl).1).1 ha hb).2
    simp only [hl, decide_true, cond_true, Bool.true_and]
    by_cases e : rw3 (l.getD (ZaP l (4 * a + b)) []) a b = 0
    · rw [e, decide_eq_true (this.1 e)]; rfl
    · rw [decide_eq_false fun h => e (this.2 h)]; simpa using e
  · simp [hl]
def putW (l : List (List Int)) (r : List Int) : List (List Int) := l.take (ZaP l (key r)) ++ r :: l.drop (bif hasW l (key r) then ZaP l (key r) + 1 else ZaP l (key r))
theorem ZoY {l : List (List Int)} (h : okWs l) (h16 : l.length = 16) {k : Int} (hk : 0 ≤ k ∧ k ≤ 15) : hasW l k = true := by
  have key_ge : ∀ i : Nat, i < 16 → (i : Int) ≤ key (l.getD i []) := by
    intro i
    induction i with
    | zero =>
      intro _
      have := (Zca (h 0 (by omega)).1).1
      unfold inW at this; unfold key; omega
    | succ i ih => intro hi; have := ih (by omega); have := Zi5 h i (i + 1) (by omega) (by omega); omega
  have key_le : ∀ d : Nat, d < 16 → key (l.getD (15 - d) []) ≤ 15 - (d : Int) := by
    intro d
    induction d with
    | zero =>
      intro _
      have := (Zca (h 15 (by omega)).1).1
      unfold inW at this; unfold key; simp only [Nat.sub_zero]; omega
    | succ d ih =>
      intro hd
      have := ih (by omega)
      have h2 := Zi5 h (15 - (d + 1)) (15 - d) (by omega) (by omega)
      omega
  have hkey : ∀ i : Nat, i < 16 → key (l.getD i []) = i := fun i hi => by
    have h1 := key_ge i hi
    have h2 := key_le (15 - i) (by omega)
    rw [show 15 - (15 - i) = i by omega] at h2
    omega
  obtain ⟨n, rfl⟩ := Int.eq_ofNat_of_zero_le hk.1
  have hle := Zdj l (n : Int)
  have hlt : ZaP l (n : Int) < l.length := by
    rcases Nat.lt_or_ge (ZaP l (n : Int)) l.length with h' | h'
    · exact h'
    · exfalso
      have := ZeJ (l := l) (k := (n : Int)) (h := 15) (by omega)
      rw [hkey 15 (by omega)] at this; omega
  have h1 := ZfZ hlt
  have hm : ZaP l (n : Int) < 16 := by omega
  rw [hkey _ hm] at h1
  unfold hasW
  rw [decide_eq_true hlt, hkey _ hm]
  by_cases e : ZaP l (n : Int) = n
  · rw [e]; simp
  · exfalso
    have := ZeJ (l := l) (k := (n : Int)) (h := ZaP l (n : Int) - 1) (by omega)
    have : n < ZaP l (n : Int) := by omega
    have := ZeJ (l := l) (k := (n : Int)) (h := n) this
    rw [hkey n (by omega)] at this; omega
theorem ZsG (r : List Int) : ZbE [r] = okw r := by
  unfold ZbE Zfd
  simp [List.range, List.range.loop]
def Zaj (l : List (List Int)) (r : List Int) : List (List Int) := bif ZbE l && okw r then putW l r else []
def Ze7 (l : List (List Int)) (r : List Int) : Int := bif ZbE l && okw r then 0 else 1000
theorem Zr7 (l : List (List Int)) (m : Nat) (r : List Int) (h : m < l.length) : l.set m r = l.take m ++ r :: l.drop (m + 1) := List.set_eq_take_append_cons_drop.trans (by rw [if_pos h])
theorem Zuz (l : List (List Int)) (m : Nat) (a b c : Int) : ins (mZ l) m [vI a, vI b, vI c] = mZ (l.take m ++ [a, b, c] :: l.drop m) := by
  simp [ins, mZ, List.map_take, List.map_drop]
def sWth : Spec := fun ds Q => match ds with
  | [.c (.s 0 3 R sp), .agg [.v (.int .i64 a), .v (.int .i64 b), .v (.int .i64 c)]] => cond (okZ 3 R) (Q (.tup [.c (.s 1 3 (mZ (Zaj (toZ R) [a, b, c])) []), I (Ze7 (toZ R) [a, b, c])])) False
  | _ => False
theorem ZsQ {l : List (List Int)} {sp : List (List D)} {a b c : Int} (hw : wid 3 l) (hn : l.length ≤ 9223372036854775807) (K : DV → Prop) (hK : K (.tup [.c (.s 1 3 (mZ (Zaj l [a, b, c])) []), I (Ze7 l [a, b, c])])) :
    evp Tryz.prog (gW [(106, sWMy), (137, Zb6), (138, sBSF), (140, sIns)]) 200 (Zao Tryz.f86) (finX Tryz.prog Tryz.f86 K) (Zbz 42 [dS 3 (mZ l) sp, .agg [vI a, vI b, vI c]]) := by
  rw [Zvm]
  have hk : okZ 3 (mZ l) = true := ZjZ hw hn
  have h1 : toZ [[D.v (Value.int IntKind.i64 a), D.v (Value.int IntKind.i64 b), D.v (Value.int IntKind.i64 c)]] = [[a, b, c]] := rfl
  simp only [hk, cond_true, Zdz, h1, ZsG]
  unfold Zaj Ze7 at hK
  cases hm : ZbE l with
  | false => rw [hm] at hK; exact hK
  | true =>
    cases ho : okw [a, b, c] with
    | false => rw [hm, ho] at hK; exact hK
    | true =>
      rw [hm, ho] at hK
      obtain ⟨h16, hws⟩ := (Zi3 l).1 hm
      have hin := (Zca ho).1
      have ha : 0 ≤ a ∧ a ≤ 3 := hin.1
      have hb : 0 ≤ b ∧ b ≤ 3 := hin.2
      have hkey : key [a, b, c] = 4 * a + b := rfl
      have hv : allV (mZ l) = true := ZdF l
      have hL : List.length (mZ l) = l.length := Zaf l
      simp only [Bool.and_self, cond_true, Bool.not_true, cond_false, Zj7 hws ha hb, Ztu hws ha hb, List.append_nil, hL, hv, Int.toNat_natCast, Zdc, Nat.zero_add, Nat.le_refl, decide_true, Nat.add_zero, Nat.sub_self, List.take_zero, Int.natCast_nonneg, Bool.true_and, Int.ofNat_lt, Int.ofNat_le, List.length_set] at hK ⊢
      unfold putW at hK
      rw [hkey] at hK
      have hle := Zdj l (4 * a + b)
      refine cnd (by simp; omega) (cnd (by simp; omega) ?_)
      cases hh : hasW l (4 * a + b) with
      | true =>
        rw [hh] at hK
        have hlt : ZaP l (4 * a + b) < l.length := by
          unfold hasW at hh
          simp only [Bool.and_eq_true, decide_eq_true_eq] at hh
          exact hh.1
        have hr : l.getD (ZaP l (4 * a + b)) [] = l.getD (ZaP l (4 * a + b)) [] := rfl
        have hd3 : List.drop 3 (List.getD (mZ l) (ZaP l (4 * a + b)) []) = [] := List.drop_eq_nil_of_le (by rw [ZdC, List.length_map, ZaA hw hlt]; exact Nat.le_refl _)
        have he : List.set (mZ l) (ZaP l (4 * a + b)) [D.v (Value.int IntKind.i64 a), D.v (Value.int IntKind.i64 b), D.v (Value.int IntKind.i64 c)] = mZ (l.take (ZaP l (4 * a + b)) ++ [a, b, c] :: l.drop (ZaP l (4 * a + b) + 1)) := by
          rw [← Zr7 l _ _ hlt, ← ZhB]; rfl
        simp only [cond_true, hlt, decide_true, hd3, he, Zaq (ZdF _), Nat.le_refl] at hK ⊢
        rw [List.take_of_length_le (by rw [Zaf]; simp; omega)]
        exact hK
      | false =>
        rw [hh] at hK
        have hne : ¬ l.length = 16 := fun h => by
          have := ZoY hws h (k := 4 * a + b) (by omega)
          rw [hh] at this; cases this
        have h17 : ((l.length : Int) == 16) = false := by simp; omega
        have hkp := Zaq hv
        have hkp2 := Zaq (ZdF (l.take (ZaP l (4 * a + b)) ++ [a, b, c] :: l.drop (ZaP l (4 * a + b))))
        have ht : List.take l.length (mZ l) = mZ l := List.take_of_length_le (by rw [Zaf]; exact Nat.le_refl _)
        have hi : ins (mZ l) (ZaP l (4 * a + b)) [D.v (Value.int IntKind.i64 a), D.v (Value.int IntKind.i64 b), D.v (Value.int IntKind.i64 c)] = mZ (l.take (ZaP l (4 * a + b)) ++ [a, b, c] :: l.drop (ZaP l (4 * a + b))) := Zuz l _ a b c
        simp only [cond_false, h17, ht, hL, hi, hkp, hkp2, hv, hle, decide_true, cond_true, Nat.le_refl, Bool.and_self, Bool.true_and, Nat.sub_self, List.take_zero] at hK ⊢
        refine cnd (by simp; omega) ?_
        rw [List.take_of_length_le (Nat.le_refl _)]
        exact hK
theorem oWth : Zad Tryz.prog 86 sWth := o_of Tryz.func86 (by kernel_rfl) rfl fun ds Q h => by
  unfold sWth at h; split at h
  · rename_i R sp a b c
    obtain ⟨h1, h2⟩ := Zag h
    obtain ⟨e1, w1, n1⟩ := Zah h1
    rw [e1]
    rw [← Zal R] at n1
    generalize toZ R = l at *
    have hv := ZdF (Zaj l [a, b, c])
    refine ⟨_, Zb9 (ZwX (.cons oWMy (.cons Zfy (.cons oBSF (.cons oIns .nil))))) mixed 200 Tryz.func86 (c := Zao Tryz.f86) rfl (fun b hb s hs => by cases hs) (Nat.le_of_ble_eq_true rfl) rfl (ZsQ w1 n1 _ rfl), by simp [DV.pureOwn, DV.pure1, D.pureOwn, DV.pureOwn.go, ZaQ hv]; rfl, rfl, h2⟩
  · exact h.elim
end

section
open Go Go.Proofs
def stWW (R sp : List (List D)) (a b c : Int) (n m : Nat) (W : List (List D)) (p : Bool) (i : Int) : X := ⟨mkT 70 [(0, aS 3 R sp), (3, .c (.rp 4 0 3 0 0)), (6, .c (.rs 7 0 3 0 n m)), (7, ab p), (8, ai i)], [(4, .bx 0 3 [.d (vI a), .d (vI b), .d (vI c)]), (7, .sl 0 3 W)], [], []⟩
def vWW (R sp : List (List D)) (a b c : Int) : Vw := fun y K => aS' y 6 fun n m => wL y 7 fun W => wB y 7 fun p => wI y 8 fun i => K (stWW R sp a b c n m W p i)
theorem ZrA (R sp : List (List D)) (a b c : Int) : VwOK (vWW R sp a b c) := fun y K h => by
  unfold vWW at h
  obtain ⟨n, m, h⟩ := Zvd h
  obtain ⟨W, h⟩ := ZnW h
  obtain ⟨p, h⟩ := Zdx h
  obtain ⟨i, h⟩ := Zcc h
  exact ⟨_, h⟩
theorem rWW (R sp : List (List D)) (a b c : Int) (n m : Nat) (W : List (List D)) (p : Bool) (i : Int) (N : X → Prop) (E : Exit → X → Prop) : (ZbV Tryz.prog (hkA band bor [(141, sPl)] []) Tryz.f87 0 [] [0, 3, 6, 7, 8] [4, 7] (vWW R sp a b c) (vWW R sp a b c) N E (stWW R sp a b c n m W p i)) = (bif decide (i < @Nat.cast Int _ (List.length R)) then bif decide (0 ≤ i) && decide (i < @Nat.cast Int _ (List.length R)) then bif isJ [IntKind.i64] (List.drop (0) (List.getD R (Int.toNat i) [])) then bif decide (0 ≤ i) && decide (i < @Nat.cast Int _ (List.length R)) then bif isJ [IntKind.i64] (List.drop (1) (List.getD R (Int.toNat i) [])) then bif !p then bif decide (plc (hdJ (List.drop (0) (List.getD R (Int.toNat i) []))) (hdJ (List.drop (1) (List.getD R (Int.toNat i) []))) ≥ plc a b) then bif decide (n ≤ List.length W) && (decide ((n + 1) * 24 ≤ 140737488355328) && decide (n + 1 ≤ 9223372036854775807)) then bif plc (hdJ (List.drop (0) (List.getD R (Int.toNat i) []))) (hdJ (List.drop (1) (List.getD R (Int.toNat i) []))) != plc a b then bif decide (0 ≤ i) && decide (i < @Nat.cast Int _ (List.length R)) then bif isJ [IntKind.i64, IntKind.i64, IntKind.i64] (List.drop (0) (List.getD R (Int.toNat i) [])) then bif decide (n + 1 ≤ List.length (List.take n W ++ cut [[D.v (Value.int IntKind.i64 a), D.v (Value.int IntKind.i64 b), D.v (Value.int IntKind.i64 c)]] (0) (1))) && (decide ((n + 1 + 1) * 24 ≤ 140737488355328) && decide (n + 1 + 1 ≤ 9223372036854775807)) then stWW R sp a b c (n + 1 + 1) (n + 1 + 1) (List.take (n + 1) (List.take n W ++ cut [[D.v (Value.int IntKind.i64 a), D.v (Value.int IntKind.i64 b), D.v (Value.int IntKind.i64 c)]] (0) (1)) ++ cut [[D.v (Value.int IntKind.i64 (hdJ (List.drop (0) (List.getD R (Int.toNat i) [])))), D.v (Value.int IntKind.i64 (hdJ (List.tail (List.drop (0) (List.getD R (Int.toNat i) []))))), D.v (Value.int IntKind.i64 (hdJ (List.tail (List.tail (List.drop (0) (List.getD R (Int.toNat i) []))))))]] (0) (1)) true (IntKind.wrap IntKind.i64 (i + 1)) = stWW R sp a b c (n + 1 + 1) (n + 1 + 1) (List.take (n + 1) (List.take n W ++ cut [[D.v (Value.int IntKind.i64 a), D.v (Value.int IntKind.i64 b), D.v (Value.int IntKind.i64 c)]] (0) (1)) ++ cut [[D.v (Value.int IntKind.i64 (hdJ (List.drop (0) (List.getD R (Int.toNat i) [])))), D.v (Value.int IntKind.i64 (hdJ (List.tail (List.drop (0) (List.getD R (Int.toNat i) []))))), D.v (Value.int IntKind.i64 (hdJ (List.tail (List.tail (List.drop (0) (List.getD R (Int.toNat i) []))))))]] (0) (1)) true (IntKind.wrap IntKind.i64 (i + 1)) ∧ N (stWW R sp a b c (n + 1 + 1) (n + 1 + 1) (List.take (n + 1) (List.take n W ++ cut [[D.v (Value.int IntKind.i64 a), D.v (Value.int IntKind.i64 b), D.v (Value.int IntKind.i64 c)]] (0) (1)) ++ cut [[D.v (Value.int IntKind.i64 (hdJ (List.drop (0) (List.getD R (Int.toNat i) [])))), D.v (Value.int IntKind.i64 (hdJ (List.tail (List.drop (0) (List.getD R (Int.toNat i) []))))), D.v (Value.int IntKind.i64 (hdJ (List.tail (List.tail (List.drop (0) (List.getD R (Int.toNat i) []))))))]] (0) (1)) true (IntKind.wrap IntKind.i64 (i + 1))) else False else False else False else stWW R sp a b c (n + 1) (n + 1) (List.take n W ++ cut [[D.v (Value.int IntKind.i64 a), D.v (Value.int IntKind.i64 b), D.v (Value.int IntKind.i64 c)]] (0) (1)) true (IntKind.wrap IntKind.i64 (i + 1)) = stWW R sp a b c (n + 1) (n + 1) (List.take n W ++ cut [[D.v (Value.int IntKind.i64 a), D.v (Value.int IntKind.i64 b), D.v (Value.int IntKind.i64 c)]] (0) (1)) true (IntKind.wrap IntKind.i64 (i + 1)) ∧ N (stWW R sp a b c (n + 1) (n + 1) (List.take n W ++ cut [[D.v (Value.int IntKind.i64 a), D.v (Value.int IntKind.i64 b), D.v (Value.int IntKind.i64 c)]] (0) (1)) true (IntKind.wrap IntKind.i64 (i + 1))) else False else bif plc (hdJ (List.drop (0) (List.getD R (Int.toNat i) []))) (hdJ (List.drop (1) (List.getD R (Int.toNat i) []))) != plc a b then bif decide (0 ≤ i) && decide (i < @Nat.cast Int _ (List.length R)) then bif isJ [IntKind.i64, IntKind.i64, IntKind.i64] (List.drop (0) (List.getD R (Int.toNat i) [])) then bif decide (n ≤ List.length W) && (decide ((n + 1) * 24 ≤ 140737488355328) && decide (n + 1 ≤ 9223372036854775807)) then stWW R sp a b c (n + 1) (n + 1) (List.take n W ++ cut [[D.v (Value.int IntKind.i64 (hdJ (List.drop (0) (List.getD R (Int.toNat i) [])))), D.v (Value.int IntKind.i64 (hdJ (List.tail (List.drop (0) (List.getD R (Int.toNat i) []))))), D.v (Value.int IntKind.i64 (hdJ (List.tail (List.tail (List.drop (0) (List.getD R (Int.toNat i) []))))))]] (0) (1)) p (IntKind.wrap IntKind.i64 (i + 1)) = stWW R sp a b c (n + 1) (n + 1) (List.take n W ++ cut [[D.v (Value.int IntKind.i64 (hdJ (List.drop (0) (List.getD R (Int.toNat i) [])))), D.v (Value.int IntKind.i64 (hdJ (List.tail (List.drop (0) (List.getD R (Int.toNat i) []))))), D.v (Value.int IntKind.i64 (hdJ (List.tail (List.tail (List.drop (0) (List.getD R (Int.toNat i) []))))))]] (0) (1)) p (IntKind.wrap IntKind.i64 (i + 1)) ∧ N (stWW R sp a b c (n + 1) (n + 1) (List.take n W ++ cut [[D.v (Value.int IntKind.i64 (hdJ (List.drop (0) (List.getD R (Int.toNat i) [])))), D.v (Value.int IntKind.i64 (hdJ (List.tail (List.drop (0) (List.getD R (Int.toNat i) []))))), D.v (Value.int IntKind.i64 (hdJ (List.tail (List.tail (List.drop (0) (List.getD R (Int.toNat i) []))))))]] (0) (1)) p (IntKind.wrap IntKind.i64 (i + 1))) else False else False else False else stWW R sp a b c n m W p (IntKind.wrap IntKind.i64 (i + 1)) = stWW R sp a b c n m W p (IntKind.wrap IntKind.i64 (i + 1)) ∧ N (stWW R sp a b c n m W p (IntKind.wrap IntKind.i64 (i + 1))) else bif plc (hdJ (List.drop (0) (List.getD R (Int.toNat i) []))) (hdJ (List.drop (1) (List.getD R (Int.toNat i) []))) != plc a b then bif decide (0 ≤ i) && decide (i < @Nat.cast Int _ (List.length R)) then bif isJ [IntKind.i64, IntKind.i64, IntKind.i64] (List.drop (0) (List.getD R (Int.toNat i) [])) then bif decide (n ≤ List.length W) && (decide ((n + 1) * 24 ≤ 140737488355328) && decide (n + 1 ≤ 9223372036854775807)) then stWW R sp a b c (n + 1) (n + 1) (List.take n W ++ cut [[D.v (Value.int IntKind.i64 (hdJ (List.drop (0) (List.getD R (Int.toNat i) [])))), D.v (Value.int IntKind.i64 (hdJ (List.tail (List.drop (0) (List.getD R (Int.toNat i) []))))), D.v (Value.int IntKind.i64 (hdJ (List.tail (List.tail (List.drop (0) (List.getD R (Int.toNat i) []))))))]] (0) (1)) p (IntKind.wrap IntKind.i64 (i + 1)) = stWW R sp a b c (n + 1) (n + 1) (List.take n W ++ cut [[D.v (Value.int IntKind.i64 (hdJ (List.drop (0) (List.getD R (Int.toNat i) [])))), D.v (Value.int IntKind.i64 (hdJ (List.tail (List.drop (0) (List.getD R (Int.toNat i) []))))), D.v (Value.int IntKind.i64 (hdJ (List.tail (List.tail (List.drop (0) (List.getD R (Int.toNat i) []))))))]] (0) (1)) p (IntKind.wrap IntKind.i64 (i + 1)) ∧ N (stWW R sp a b c (n + 1) (n + 1) (List.take n W ++ cut [[D.v (Value.int IntKind.i64 (hdJ (List.drop (0) (List.getD R (Int.toNat i) [])))), D.v (Value.int IntKind.i64 (hdJ (List.tail (List.drop (0) (List.getD R (Int.toNat i) []))))), D.v (Value.int IntKind.i64 (hdJ (List.tail (List.tail (List.drop (0) (List.getD R (Int.toNat i) []))))))]] (0) (1)) p (IntKind.wrap IntKind.i64 (i + 1))) else False else False else False else stWW R sp a b c n m W p (IntKind.wrap IntKind.i64 (i + 1)) = stWW R sp a b c n m W p (IntKind.wrap IntKind.i64 (i + 1)) ∧ N (stWW R sp a b c n m W p (IntKind.wrap IntKind.i64 (i + 1))) else False else False else False else False else stWW R sp a b c n m W p i = stWW R sp a b c n m W p i ∧ E (Exit.exit (0)) (stWW R sp a b c n m W p i)) := by kernel_rfl
def in64 (x : Int) : Bool := decide (-9223372036854775808 ≤ x) && decide (x ≤ 9223372036854775807)
end

section
open Go Go.Proofs
def stepW (k : Int) (r : List Int) (s : List (List Int) × Bool) (x : List Int) : List (List Int) × Bool :=
  let o := bif !s.2 then (bif decide (key x ≥ k) then s.1 ++ [r] else s.1) else s.1
  (bif key x != k then o ++ [x] else o, s.2 || decide (key x ≥ k))
def Za0 (l : List (List Int)) (r : List Int) (i : Nat) : List (List Int) × Bool := (l.take i).foldl (stepW (key r) r) ([], false)
theorem ZfO {l : List (List Int)} {i : Nat} (h : i < l.length) : l.take (i + 1) = l.take i ++ [l.getD i []] := by
  rw [List.take_add_one]
  simp [List.getD_eq_getElem?_getD, h]
theorem ZcW {l : List (List Int)} {r : List Int} {i : Nat} (h : i < l.length) : Za0 l r (i + 1) = stepW (key r) r (Za0 l r i) (l.getD i []) := by
  unfold Za0
  rw [ZfO h, List.foldl_append]; rfl
theorem Ziq {l : List (List Int)} {r : List Int} : ∀ i, i ≤ ZaP l (key r) → Za0 l r i = (l.take i, false)
  | 0, _ => rfl
  | i + 1, h => by
    have hl : i < l.length := Nat.lt_of_lt_of_le h (Zdj _ _)
    rw [ZcW hl, Ziq i (by omega), ZfO hl]
    have hk := ZeJ h
    have h1 : decide (key (l.getD i []) ≥ key r) = false := decide_eq_false (by omega)
    have h2 : (key (l.getD i []) != key r) = true := by
      have : key (l.getD i []) ≠ key r := by omega
      simpa using this
    simp only [stepW, h1, h2, Bool.not_false, cond_true, cond_false, Bool.or_false]
theorem Zmm {l : List (List Int)} {r : List Int} (hws : okWs l) (hm : ZaP l (key r) < l.length) : ∀ d, ZaP l (key r) + 1 + d ≤ l.length →
    Za0 l r (ZaP l (key r) + 1 + d) = (l.take (ZaP l (key r)) ++ r :: (l.take (ZaP l (key r) + 1 + d)).drop (bif hasW l (key r) then ZaP l (key r) + 1 else ZaP l (key r)), true)
  | 0, h => by
    rw [Nat.add_zero, ZcW hm, Ziq _ (Nat.le_refl _)]
    have hk := ZfZ hm
    have h1 : decide (key (l.getD (ZaP l (key r)) []) ≥ key r) = true := decide_eq_true (by omega)
    simp only [stepW, h1, Bool.not_false, cond_true, Bool.or_true]
    have hh : hasW l (key r) = decide (key (l.getD (ZaP l (key r)) []) = key r) := by unfold hasW; rw [decide_eq_true hm, Bool.true_and]
    rw [hh]
    by_cases e : key (l.getD (ZaP l (key r)) []) = key r
    · have h2 : (key (l.getD (ZaP l (key r)) []) != key r) = false := by rw [e]; simp
      rw [h2, decide_eq_true e]
      simp only [cond_true, cond_false]
      rw [List.drop_eq_nil_of_le (by rw [List.length_take]; omega)]
    · have h2 : (key (l.getD (ZaP l (key r)) []) != key r) = true := by simpa using e
      rw [h2, decide_eq_false e]
      simp only [cond_true, cond_false]
      rw [ZfO hm, List.drop_append_of_le_length (by rw [List.length_take]; omega), List.drop_eq_nil_of_le (by rw [List.length_take]; omega)]
      simp
  | d + 1, h => by
    have hl : ZaP l (key r) + 1 + d < l.length := by omega
    have ih := Zmm hws hm d (by omega)
    rw [show ZaP l (key r) + 1 + (d + 1) = (ZaP l (key r) + 1 + d) + 1 by omega, ZcW hl, ih]
    have hk := ZfZ hm
    have hk2 := Zi5 hws (ZaP l (key r)) (ZaP l (key r) + 1 + d) (by omega) hl
    have h2 : (key (l.getD (ZaP l (key r) + 1 + d) []) != key r) = true := by
      have : key (l.getD (ZaP l (key r) + 1 + d) []) ≠ key r := by omega
      simpa using this
    simp only [stepW, h2, Bool.not_true, cond_true, cond_false, Bool.true_or]
    rw [ZfO hl, List.drop_append_of_le_length (by rw [List.length_take]; cases hasW l (key r) <;> simp only [cond_true, cond_false] <;> omega)]
    simp
theorem ZoN {l : List (List Int)} {r : List Int} (hws : okWs l) : (bif (Za0 l r l.length).2 then (Za0 l r l.length).1 else (Za0 l r l.length).1 ++ [r]) = putW l r := by
  unfold putW
  rcases Nat.lt_or_ge (ZaP l (key r)) l.length with hm | hm
  · have h := Zmm (r := r) hws hm (l.length - (ZaP l (key r) + 1)) (by omega)
    rw [show ZaP l (key r) + 1 + (l.length - (ZaP l (key r) + 1)) = l.length by omega] at h
    rw [h]
    simp only [cond_true, List.take_length]
  · have e : ZaP l (key r) = l.length := Nat.le_antisymm (Zdj _ _) hm
    have h := Ziq (l := l) (r := r) l.length (by omega)
    have hh : hasW l (key r) = false := by unfold hasW; rw [decide_eq_false (by omega)]; rfl
    rw [h, hh, e]
    simp
theorem Zg0 {l : List (List Int)} {r : List Int} : ∀ i, i ≤ l.length → (Za0 l r i).1.length ≤ 2 * i
  | 0, _ => by simp [Za0]
  | i + 1, h => by
    rw [ZcW h]
    have ih := Zg0 (l := l) (r := r) i (by omega)
    generalize Za0 l r i = s at ih ⊢
    obtain ⟨W, d⟩ := s
    unfold stepW
    simp only at ih ⊢
    cases d <;> cases decide (key (l.getD i []) ≥ key r) <;> cases (key (l.getD i []) != key r) <;> simp <;> omega
def fWW (l : List (List Int)) (sp : List (List D)) (a b c : Int) : LSum := fun Q x => x.arr [0, 3, 6, 7, 8] [4, 7] = stWW (mZ l) sp a b c 0 0 [] false 0 ∧ ∀ i, Q (.exit 0) (stWW (mZ l) sp a b c (Za0 l [a, b, c] l.length).1.length (Za0 l [a, b, c] l.length).1.length (mZ (Za0 l [a, b, c] l.length).1) (Za0 l [a, b, c] l.length).2 i)
theorem kWW {l : List (List Int)} {sp : List (List D)} {a b c : Int} (hw : wid 3 l) (hm : ZbE l = true) (ho : okw [a, b, c] = true) (Q : Exit → X → Prop) (x : X) (h : fWW l sp a b c Q x) : XWP Tryz.prog (.loop (Zar Tryz.f87 0)) Q x := by
  obtain ⟨h1, h2⟩ := h
  obtain ⟨h16, hws⟩ := (Zi3 l).1 hm
  refine Zhx (ι := Nat) (H := hkA band bor [(141, sPl)] []) [] (ZaL (.cons oPl .nil)) mixed (Zai rfl) (fun i => stWW (mZ l) sp a b c (Za0 l [a, b, c] i).1.length (Za0 l [a, b, c] i).1.length (mZ (Za0 l [a, b, c] i).1) (Za0 l [a, b, c] i).2 i) (fun i => i ≤ l.length) (fun i => l.length - i) 0 (vWW (mZ l) sp a b c) (vWW (mZ l) sp a b c) (ZrA _ _ _ _ _) (ZrA _ _ _ _ _) (fun i hi => ?_) (Nat.zero_le _) h1
  rw [rWW]
  by_cases hl : i < l.length
  · have wi : IntKind.wrap .i64 ((i : Int) + 1) = ((i + 1 : Nat) : Int) := Zan (n := 1) (by omega)
    have hj0 : isJ [IntKind.i64] (((mZ l).getD i [])) = true := ZbR (j := 0) hw hl (by omega)
    have hj1 : isJ [IntKind.i64] (((mZ l).getD i []).drop 1) = true := ZbR (j := 1) hw hl (by omega)
    have hj : isJ [IntKind.i64, IntKind.i64, IntKind.i64] (((mZ l).getD i [])) = true := Zav (j := 0) (n := 3) hw hl (by omega)
    have hp1 : plc ((l.getD i []).getD 0 0) ((l.getD i []).getD 1 0) = key (l.getD i []) := Ze3 (Zca (hws i hl).1).1
    have hp2 : plc a b = key [a, b, c] := Ze3 (r := [a, b, c]) (Zca ho).1
    have hlen := Zg0 (l := l) (r := [a, b, c]) i (by omega)
    have hs := ZcW (r := [a, b, c]) hl
    have hrow := row3 (ZaA hw hl)
    generalize Za0 l [a, b, c] i = s at *
    obtain ⟨W, d⟩ := s
    simp only at hlen hs ⊢
    have ht : ∀ X, List.take W.length (mZ W) ++ X = mZ W ++ X := fun X => by rw [List.take_of_length_le (by rw [Zaf]; exact Nat.le_refl _)]
    have hc1 : cut [[D.v (Value.int IntKind.i64 a), D.v (Value.int IntKind.i64 b), D.v (Value.int IntKind.i64 c)]] 0 1 = mZ [[a, b, c]] := rfl
    have hc2 : ∀ x y z, cut [[D.v (Value.int IntKind.i64 x), D.v (Value.int IntKind.i64 y), D.v (Value.int IntKind.i64 z)]] 0 1 = mZ [[x, y, z]] := fun _ _ _ => rfl
    have b1 : (decide (W.length ≤ (mZ W).length) && (decide ((W.length + 1) * 24 ≤ 140737488355328) && decide (W.length + 1 ≤ 9223372036854775807))) = true := by rw [Zaf]; simp; omega
    have b2 : (decide (W.length + 1 ≤ (mZ W ++ mZ [[a, b, c]]).length) && (decide ((W.length + 1 + 1) * 24 ≤ 140737488355328) && decide (W.length + 1 + 1 ≤ 9223372036854775807))) = true := by rw [List.length_append, Zaf, Zaf]; simp; omega
    have ht2 : List.take (W.length + 1) (mZ W ++ mZ [[a, b, c]]) = mZ W ++ mZ [[a, b, c]] := List.take_of_length_le (by rw [List.length_append, Zaf, Zaf]; simp)
    simp only [Zaf, Int.ofNat_lt, hl, decide_true, cond_true, Int.natCast_nonneg, Bool.and_self, Int.toNat_natCast, hj0, hj1, hj, List.drop_zero, ZaJ, ZbL, ZaM, ZaO, true_and, wi, hp1, hp2, hc1, hc2, ht, hrow, ht2]
    rw [Zaf] at b1
    rw [Zgg] at b2
    simp only [b1, Zgg, b2, cond_true]
    have nx : ∀ s, stepW (key [a, b, c]) [a, b, c] (W, d) (l.getD i []) = s → ∃ p', l.length - p' < l.length - i ∧ p' ≤ l.length ∧ stWW (mZ l) sp a b c s.1.length s.1.length (mZ s.1) s.2 ((i + 1 : Nat) : Int) = stWW (mZ l) sp a b c (Za0 l [a, b, c] p').1.length (Za0 l [a, b, c] p').1.length (mZ (Za0 l [a, b, c] p').1) (Za0 l [a, b, c] p').2 p' := fun s h => ⟨i + 1, by omega, hl, by rw [hs, h]⟩
    generalize hge : decide (key (l.getD i []) ≥ key [a, b, c]) = ge at nx ⊢
    generalize hne : (key (l.getD i []) != key [a, b, c]) = ne at nx ⊢
    have st : stepW (key [a, b, c]) [a, b, c] (W, d) (l.getD i []) = (bif ne then (bif !d then (bif ge then W ++ [[a, b, c]] else W) else W) ++ [l.getD i []] else (bif !d then (bif ge then W ++ [[a, b, c]] else W) else W), d || ge) := by unfold stepW; rw [hge, hne]
    rw [st] at nx
    cases d <;> cases ge <;> cases ne <;> simp only [Bool.not_false, Bool.not_true, cond_true, cond_false, Bool.or_false, Bool.false_or, Bool.or_true, Bool.true_or, List.append_assoc] at nx ⊢
    all_goals first
      | exact nx _ rfl
      | (have := nx _ rfl; simpa using this)
  · have e : i = l.length := by omega
    subst e
    have hlt : decide (((l.length : Nat) : Int) < ((mZ l).length : Int)) = false := by rw [Zaf]; simp
    rw [hlt]
    exact ⟨rfl, h2 _⟩
theorem eWW (l : List (List Int)) (sp : List (List D)) (a b c : Int) (K : DV → Prop) : (askL Tryz.prog [(123, sWMy)] [(6, fWW l sp a b c)] Tryz.f87 [dS 3 (mZ l) sp, .agg [vI a, vI b, vI c]] K) = (bif okZ (3) (mZ l) then bif !ZbE (toZ (mZ l)) then K (DV.tup [DV.c (D.s (1) (3) [] []), DV.c (D.v (Value.int IntKind.i64 (1000)))]) else bif !ZbE (toZ [[D.v (Value.int IntKind.i64 a), D.v (Value.int IntKind.i64 b), D.v (Value.int IntKind.i64 c)]]) then K (DV.tup [DV.c (D.s (1) (3) [] []), DV.c (D.v (Value.int IntKind.i64 (1000)))]) else stWW (mZ l) sp a b c (0) (0) [] false (0) = stWW (mZ l) sp a b c (0) (0) [] false (0) ∧ ∀ (i : Int), bif !(Za0 l [a, b, c] (List.length l)).snd then bif decide (List.length (Za0 l [a, b, c] (List.length l)).fst ≤ List.length (mZ (Za0 l [a, b, c] (List.length l)).fst)) && (decide ((List.length (Za0 l [a, b, c] (List.length l)).fst + 1) * 24 ≤ 140737488355328) && decide (List.length (Za0 l [a, b, c] (List.length l)).fst + 1 ≤ 9223372036854775807)) then bif decide (List.length (Za0 l [a, b, c] (List.length l)).fst + 1 ≤ List.length (List.take (List.length (Za0 l [a, b, c] (List.length l)).fst) (mZ (Za0 l [a, b, c] (List.length l)).fst) ++ [[D.v (Value.int IntKind.i64 a), D.v (Value.int IntKind.i64 b), D.v (Value.int IntKind.i64 c)]])) && List.all (List.take (List.length (Za0 l [a, b, c] (List.length l)).fst) (mZ (Za0 l [a, b, c] (List.length l)).fst) ++ [[D.v (Value.int IntKind.i64 a), D.v (Value.int IntKind.i64 b), D.v (Value.int IntKind.i64 c)]]) fun r => List.all r D.keeps then K (DV.tup [DV.c (D.s (1) (3) (List.take (List.length (Za0 l [a, b, c] (List.length l)).fst + 1) (List.take (List.length (Za0 l [a, b, c] (List.length l)).fst) (mZ (Za0 l [a, b, c] (List.length l)).fst) ++ [[D.v (Value.int IntKind.i64 a), D.v (Value.int IntKind.i64 b), D.v (Value.int IntKind.i64 c)]])) (List.take (List.length (Za0 l [a, b, c] (List.length l)).fst + 1 - (List.length (Za0 l [a, b, c] (List.length l)).fst + 1)) (List.drop (List.length (Za0 l [a, b, c] (List.length l)).fst + 1) (List.take (List.length (Za0 l [a, b, c] (List.length l)).fst) (mZ (Za0 l [a, b, c] (List.length l)).fst) ++ [[D.v (Value.int IntKind.i64 a), D.v (Value.int IntKind.i64 b), D.v (Value.int IntKind.i64 c)]])))), DV.c (D.v (Value.int IntKind.i64 (0)))]) else False else False else bif decide (List.length (Za0 l [a, b, c] (List.length l)).fst ≤ List.length (mZ (Za0 l [a, b, c] (List.length l)).fst)) && List.all (mZ (Za0 l [a, b, c] (List.length l)).fst) fun r => List.all r D.keeps then K (DV.tup [DV.c (D.s (1) (3) (List.take (List.length (Za0 l [a, b, c] (List.length l)).fst) (mZ (Za0 l [a, b, c] (List.length l)).fst)) (List.take (List.length (Za0 l [a, b, c] (List.length l)).fst - List.length (Za0 l [a, b, c] (List.length l)).fst) (List.drop (List.length (Za0 l [a, b, c] (List.length l)).fst) (mZ (Za0 l [a, b, c] (List.length l)).fst)))), DV.c (D.v (Value.int IntKind.i64 (0)))]) else False else False) := by kernel_rfl
theorem eWWn (l : List (List Int)) (sp : List (List D)) (a b c : Int) (K : DV → Prop) : (askL Tryz.prog [(123, sWMy)] [(6, fun _ _ => False)] Tryz.f87 [dS 3 (mZ l) sp, .agg [vI a, vI b, vI c]] K) = (bif okZ (3) (mZ l) then bif !ZbE (toZ (mZ l)) then K (DV.tup [DV.c (D.s (1) (3) [] []), DV.c (D.v (Value.int IntKind.i64 (1000)))]) else bif !ZbE (toZ [[D.v (Value.int IntKind.i64 a), D.v (Value.int IntKind.i64 b), D.v (Value.int IntKind.i64 c)]]) then K (DV.tup [DV.c (D.s (1) (3) [] []), DV.c (D.v (Value.int IntKind.i64 (1000)))]) else False else False) := by kernel_rfl
theorem cWW {l : List (List Int)} {sp : List (List D)} (a b c : Int) (hw : wid 3 l) (hn : l.length ≤ 9223372036854775807) : CT Tryz.prog 87 [dS 3 (mZ l) sp, .agg [vI a, vI b, vI c]] (.tup [.c (.s 1 3 (mZ (Zaj l [a, b, c])) []), I (Ze7 l [a, b, c])]) := by
  have hk : okZ 3 (mZ l) = true := ZjZ hw hn
  have h1 : toZ [[D.v (Value.int IntKind.i64 a), D.v (Value.int IntKind.i64 b), D.v (Value.int IntKind.i64 c)]] = [[a, b, c]] := rfl
  cases hm : ZbE l && okw [a, b, c] with
  | false =>
    refine ZaC (l := [(123, sWMy)]) (m := [(6, fun _ _ => False)]) (.cons oWPy .nil) mixed (Za7 rfl (by kernel_rfl) (fun _ _ h => h.elim)) Tryz.func87 rfl rfl rfl ?_
    rw [eWWn]
    unfold Zaj Ze7
    rw [hm]
    simp only [hk, cond_true, Zdz, h1, ZsG]
    cases h2 : ZbE l with
    | false => rfl
    | true => rw [h2] at hm; simp only [Bool.true_and] at hm; rw [hm]; rfl
  | true =>
    obtain ⟨h2, h3⟩ : ZbE l = true ∧ okw [a, b, c] = true := by simpa using hm
    obtain ⟨h16, hws⟩ := (Zi3 l).1 h2
    refine ZaC (l := [(123, sWMy)]) (m := [(6, fWW l sp a b c)]) (.cons oWPy .nil) mixed (Za7 rfl (by kernel_rfl) (kWW hw h2 h3)) Tryz.func87 rfl rfl rfl ?_
    rw [eWW]
    unfold Zaj Ze7
    rw [hm]
    have hp := ZoN (r := [a, b, c]) hws
    have hlen := Zg0 (l := l) (r := [a, b, c]) l.length (Nat.le_refl _)
    simp only [hk, cond_true, Zdz, h1, ZsG, h2, h3, Bool.not_true, cond_false]
    refine ⟨trivial, fun i => ?_⟩
    rw [← hp]
    generalize Za0 l [a, b, c] l.length = s at hlen ⊢
    obtain ⟨W, d⟩ := s
    simp only at hlen ⊢
    have hc1 : ([[D.v (Value.int IntKind.i64 a), D.v (Value.int IntKind.i64 b), D.v (Value.int IntKind.i64 c)]] : List (List D)) = mZ [[a, b, c]] := rfl
    have ht : List.take W.length (mZ W) = mZ W := List.take_of_length_le (by rw [Zaf]; exact Nat.le_refl _)
    have hkp : ∀ l, (mZ l).all (fun r => r.all D.keeps) = true := fun l => Zaq (ZdF l)
    cases d with
    | false =>
      simp only [Bool.not_false, cond_true, cond_false, hc1, ht, Zgg, hkp, Nat.sub_self, List.take_zero]
      refine cnd (by rw [Zaf]; simp; omega) (cnd (by rw [Zaf]; simp) ?_)
      rw [List.take_of_length_le (by rw [Zaf]; simp)]
    | true =>
      simp only [Bool.not_true, cond_true, cond_false, ht, hkp, Nat.sub_self, List.take_zero]
      exact cnd (by rw [Zaf]; simp) trivial
theorem oWW : Zad Tryz.prog 87 sWth := o_of Tryz.func87 (by kernel_rfl) rfl fun ds Q h => by
  unfold sWth at h; split at h
  · rename_i R sp a b c
    obtain ⟨h1, h2⟩ := Zag h
    obtain ⟨e1, w1, n1⟩ := Zah h1
    rw [e1]
    rw [← Zal R] at n1
    generalize toZ R = l at *
    have hv := ZdF (Zaj l [a, b, c])
    exact ⟨_, cWW a b c w1 n1, by simp [DV.pureOwn, DV.pure1, D.pureOwn, DV.pureOwn.go, ZaQ hv]; rfl, rfl, h2⟩
  · exact h.elim
end

section
open Go Go.Proofs
theorem o_al {f : FuncId} {fn : Func} {s : Spec} (hf : Tryz.prog.funcs[f]? = some fn) (hn : (fn.name == "runtime.NumGoroutine") = false) (hb : fn.body.isNone = false) (hc : ∀ ds Q, s ds Q → ∃ es r, All2 AL ds es ∧ CT Tryz.prog f es r ∧ r.pureOwn = true ∧ r.fit32 = true ∧ Q r) : Zad Tryz.prog f s := fun ds Q h => ⟨Zat hf hn hb, by
  obtain ⟨es, r, h0, h1, h2, h3, h4⟩ := hc ds Q h
  exact ⟨r, h1.args h0, .inl h2, h3, h4⟩⟩
theorem RD.shift {t t' off n : Nat} {cs : List D} : RD (.p t cs off) (.p t' ((cs.drop off).take n) 0) := fun w G v hv => by
  cases hv with
  | p _ _ b o _ vs hb hc hd =>
    have := DR.p (w := w) (G := G) t' ((cs.drop off).take n) b (o + off) 0 (fun j => vs (off + j)) hb (fun j hj => by
      have : off + j < cs.length := by simp at hj; omega
      rw [Nat.add_assoc]; exact hc (off + j) this) (fun j d hj => by
      rw [List.getElem?_take] at hj
      split at hj
      · rw [List.getElem?_drop] at hj
        exact hd (off + j) d hj
      · cases hj)
    simpa using this
theorem RD.trans {a b c : D} (h : RD a b) (h' : RD b c) : RD a c := fun w G v hv => h' w G v (h w G v hv)
theorem RD.f {fn : FuncId} {fs fs' cs cs' : List D} (h : All2 RD fs fs') (h' : All2 RD cs cs') (hn : fn ≠ AG) : RD (.f fn fs cs) (.f fn fs' cs') := fun w G v hv => by
  cases hv with
  | a => exact (hn rfl).elim
  | f _ _ _ fv cv h0 h1 h2 h3 h4 =>
    refine .f fn fs' cs' fv cv h0 (by rw [← h.len]; exact h1) (by rw [← h'.len]; exact h2) (fun i d hi => ?_) (fun i d hi => ?_)
    · obtain ⟨d0, g1, g2⟩ := h.get hi
      exact g2 _ _ _ (h3 i d0 g1)
    · obtain ⟨d0, g1, g2⟩ := h'.get hi
      exact g2 _ _ _ (h4 i d0 g1)
theorem RD.ag {cs cs' : List D} (h' : All2 RD cs cs') : RD (.f AG [] cs) (.f AG [] cs') := fun w G v hv => by
  cases hv with
  | f _ _ _ fv cv h0 => exact (h0 rfl).elim
  | a _ vs h1 h2 =>
    refine .a cs' vs (by rw [← h'.len]; exact h1) fun i d hi => ?_
    obtain ⟨d0, g1, g2⟩ := h'.get hi
    exact g2 _ _ _ (h2 i d0 g1)
def Zts (cs : List D) (K : Int → Int → Int → Int → Prop) : Prop := match cs with
  | a :: b :: c :: d :: _ => ZbM a fun a => ZbM b fun b => ZbM c fun c => ZbM d fun d => K a b c d
  | _ => False
theorem Zn5 {cs : List D} {K : Int → Int → Int → Int → Prop} (h : Zts cs K) : ∃ a b c d, K a b c d ∧ All2 RD (cs.take 4) [vN a, vN b, vN c, vN d] := by
  unfold Zts at h
  split at h
  · obtain ⟨a, h, e0⟩ := Zap h
    obtain ⟨b, h, e1⟩ := Zap h
    obtain ⟨c, h, e2⟩ := Zap h
    obtain ⟨d, h, e3⟩ := Zap h
    exact ⟨a, b, c, d, h, .cons e0 (.cons e1 (.cons e2 (.cons e3 .nil)))⟩
  · exact h.elim
def ZmQ (d : D) (K : Int → Int → Int → Int → Prop) : Prop := match d with
  | .p _ cs off => Zts (cs.drop off) K
  | _ => False
theorem Zg4 {d : D} {K : Int → Int → Int → Int → Prop} (h : ZmQ d K) : ∃ a b c e, K a b c e ∧ RD d (.p 0 [vN a, vN b, vN c, vN e] 0) ∧ d.isOwn = false := by
  unfold ZmQ at h
  split at h
  · obtain ⟨a, b, c, d, h, e⟩ := Zn5 h
    exact ⟨a, b, c, d, h, (RD.shift (t' := 0)).trans (RD.cells e), rfl⟩
  · exact h.elim
def Zhv (cs : List D) (K : List (List D) → List (List D) → List (List D) → List (List D) → Prop) : Prop := match cs with
  | a :: b :: c :: d :: _ => Zce 3 a fun a => Zce 3 b fun b => Zce 3 c fun c => Zce 3 d fun d => K a b c d
  | _ => False
abbrev wsL (a b c d : List (List D)) : List D := [.s 0 3 a [], .s 0 3 b [], .s 0 3 c [], .s 0 3 d []]
theorem Zc0 {cs : List D} {K : List (List D) → List (List D) → List (List D) → List (List D) → Prop} (h : Zhv cs K) : ∃ a b c d, K a b c d ∧ All2 RD (cs.take 4) (wsL a b c d) := by
  unfold Zhv at h
  split at h
  · obtain ⟨a, h, e0⟩ := Zay h
    obtain ⟨b, h, e1⟩ := Zay h
    obtain ⟨c, h, e2⟩ := Zay h
    obtain ⟨d, h, e3⟩ := Zay h
    exact ⟨a, b, c, d, h, .cons e0 (.cons e1 (.cons e2 (.cons e3 .nil)))⟩
  · exact h.elim
def Zne (d : D) (K : List (List D) → List (List D) → List (List D) → List (List D) → Prop) : Prop := match d with
  | .p _ cs off => Zhv (cs.drop off) K
  | _ => False
theorem Zgl {d : D} {K : List (List D) → List (List D) → List (List D) → List (List D) → Prop} (h : Zne d K) : ∃ a b c e, K a b c e ∧ RD d (.p 0 (wsL a b c e) 0) ∧ d.isOwn = false := by
  unfold Zne at h
  split at h
  · obtain ⟨a, b, c, d, h, e⟩ := Zc0 h
    exact ⟨a, b, c, d, h, (RD.shift (t' := 0)).trans (RD.cells e), rfl⟩
  · exact h.elim
def sNo : Spec := fun ds Q => match ds with | [.c (.v (.int .i64 x))] => lab x = false ∧ Q (B false) | _ => False
def v4 (a b c d : Int) : Bool := val8 a && (val8 b && (val8 c && val8 d))
theorem eRgM (a b c d : Int) (K : DV → Prop) : (ask Tryz.prog [(115, sB val8)] Tryz.f114 [.c (.p 0 [vi a, vi b, vi c, vi d] 0)] K) = (bif !val8 a then K (DV.c (D.v (Value.bool false))) else bif !val8 b then K (DV.c (D.v (Value.bool false))) else bif !val8 c then K (DV.c (D.v (Value.bool false))) else bif !val8 d then K (DV.c (D.v (Value.bool false))) else K (DV.c (D.v (Value.bool true)))) := by kernel_rfl
theorem cRgM (a b c d : Int) : CT Tryz.prog 114 [.c (.p 0 [vi a, vi b, vi c, vi d] 0)] (B (v4 a b c d)) := Zak (.cons oVal .nil) mixed Tryz.func114 rfl rfl rfl (by
  rw [eRgM]; unfold v4; cases val8 a <;> cases val8 b <;> cases val8 c <;> cases val8 d <;> rfl)
theorem Zwb (a b c d : Int) (K : DV → Prop) : (ask Tryz.prog [(91, sB val8)] Tryz.f121 [.agg [vi a, vi b, vi c, vi d]] K) = (bif !val8 a then K (DV.c (D.v (Value.bool false))) else bif !val8 b then K (DV.c (D.v (Value.bool false))) else bif !val8 c then K (DV.c (D.v (Value.bool false))) else bif !val8 d then K (DV.c (D.v (Value.bool false))) else K (DV.c (D.v (Value.bool true)))) := by kernel_rfl
theorem ZwL (a b c d : Int) : CT Tryz.prog 121 [.agg [vi a, vi b, vi c, vi d]] (B (v4 a b c d)) := Zak (.cons ZgJ .nil) mixed Tryz.func121 rfl rfl rfl (by
  rw [Zwb]; unfold v4; cases val8 a <;> cases val8 b <;> cases val8 c <;> cases val8 d <;> rfl)
def Zqs : Spec := fun ds Q => match ds with | [.agg [.v (.int .i64 a), .v (.int .i64 b), .v (.int .i64 c), .v (.int .i64 d)]] => Q (B (v4 a b c d)) | _ => False
theorem ZuD : Zad Tryz.prog 121 Zqs := fun ds Q h => by
  unfold Zqs at h; split at h
  · exact ⟨Zat Tryz.func121 (by kernel_rfl) rfl, _, ZwL _ _ _ _, .inl rfl, rfl, h⟩
  · exact h.elim
def sRgM : Spec := fun ds Q => match ds with | [.c d] => ZmQ d fun a b c e => Q (B (v4 a b c e)) | _ => False
theorem oRgM : Zad Tryz.prog 114 sRgM := o_al Tryz.func114 (by kernel_rfl) rfl fun ds Q h => by
  unfold sRgM at h; split at h
  · obtain ⟨a, b, c, e, h, hr, ho⟩ := Zg4 h
    exact ⟨_, _, .cons (.c hr ho rfl) .nil, cRgM a b c e, rfl, rfl, h⟩
  · exact h.elim
def ck4 (a b c d : Int) : Bool := clk a && (clk b && (clk c && clk d))
theorem eCkM (a b c d l : Int) (K : DV → Prop) : (ask Tryz.prog [(102, sB clk)] Tryz.f61 [.c (.p 0 [vi a, vi b, vi c, vi d] 0), I l] K) = (bif !clk a then K (DV.c (D.v (Value.bool false))) else bif !clk b then K (DV.c (D.v (Value.bool false))) else bif !clk c then K (DV.c (D.v (Value.bool false))) else bif !clk d then K (DV.c (D.v (Value.bool false))) else K (DV.c (D.v (Value.bool (clk l))))) := by kernel_rfl
def sCkM : Spec := fun ds Q => match ds with | [.c d, .c (.v (.int .i64 l))] => ZmQ d fun a b c e => Q (B (ck4 a b c e && clk l)) | _ => False
theorem oCkM : Zad Tryz.prog 61 sCkM := o_al Tryz.func61 (by kernel_rfl) rfl fun ds Q h => by
  unfold sCkM at h; split at h
  · rename_i d l
    obtain ⟨a, b, c, e, h, hr, ho⟩ := Zg4 h
    refine ⟨[.c (.p 0 [vi a, vi b, vi c, vi e] 0), I l], _, .cons (.c hr ho rfl) (.cons (.refl _) .nil), Zak (.cons oClk .nil) mixed Tryz.func61 rfl rfl rfl ?_, rfl, rfl, h⟩
    rw [eCkM]; unfold ck4; cases clk a <;> cases clk b <;> cases clk c <;> cases clk e <;> rfl
  · exact h.elim
end

section
open Go Go.Proofs
theorem ZeQ {α : Type} (l : List α) (p : α → Bool) : decide ((match l.findIdx? p with | some i => (i : Int) | none => -1) ≥ 0) = l.any p := by
  cases h : l.findIdx? p with
  | some i =>
    have : l.any p = true := by
      rw [List.findIdx?_eq_some_iff_getElem] at h
      obtain ⟨h1, h2, _⟩ := h
      exact List.any_eq_true.2 ⟨_, List.getElem_mem h1, h2⟩
    rw [this]; simp
  | none =>
    have : l.any p = false := by
      rw [List.findIdx?_eq_none_iff] at h
      rw [List.any_eq_false]; intro x hx; simpa using h x hx
    rw [this]; rfl
def thW (R0 R1 R2 R3 : List (List D)) (x y : Int) : Bool := thr R0.length R1.length R2.length R3.length x y
def Zgy (fn : Nat) (e : D) (K : List (List D) → List (List D) → List (List D) → List (List D) → Prop) : Prop := match e with
  | .f g fs cs => match Nat.beq g fn with
    | true => match fs, cs with
      | [x], [] => match x with
        | .f h gs ps => match Nat.beq h AG with
          | true => match gs, ps with
            | [], [p] => Zne p K
            | _, _ => False
          | false => False
        | _ => False
      | _, _ => False
    | false => False
  | _ => False
theorem Zcv {fn : Nat} {e : D} {K : List (List D) → List (List D) → List (List D) → List (List D) → Prop} (hn : fn ≠ AG) (h : Zgy fn e K) : ∃ a b c d, K a b c d ∧ RD e (.f fn [.f AG [] [.p 0 (wsL a b c d) 0]] []) ∧ e.isOwn = false := by
  unfold Zgy at h
  split at h
  · split at h
    · rename_i hb
      have := Zab hb; subst this
      split at h
      · split at h
        · split at h
          · rename_i hb2
            have := Zab hb2; subst this
            split at h
            · obtain ⟨a, b, c, d, h, r, _⟩ := Zgl h
              exact ⟨a, b, c, d, h, RD.f (.cons (RD.ag (.cons r .nil)) .nil) .nil hn, rfl⟩
            · exact h.elim
          · exact h.elim
        · exact h.elim
      · exact h.elim
    · exact h.elim
  · exact h.elim
def isRW (c : Int) : Bool := bif c == 2 then true else c == 3
theorem eIWd (a b c d : Int) (K : DV → Prop) : (ask Tryz.prog [] Tryz.f162 [.agg [vi a, vi b, vi c, vi d]] K) = (bif a == 2 then K (DV.c (D.v (Value.bool true))) else K (DV.c (D.v (Value.bool (a == 3))))) := by kernel_rfl
def sIWd : Spec := fun ds Q => match ds with | [.agg [.v (.int .i64 a), .v (.int .i64 b), .v (.int .i64 c), .v (.int .i64 d)]] => Q (B (isRW a)) | _ => False
theorem oIWd : Zad Tryz.prog 162 sIWd := o_of Tryz.func162 (by kernel_rfl) rfl fun ds Q h => by
  unfold sIWd at h; split at h
  · rename_i a b c d
    refine ⟨_, Zak .nil mixed Tryz.func162 rfl rfl rfl ?_, rfl, rfl, h⟩
    rw [eIWd]; unfold isRW; cases a == 2 <;> rfl
  · exact h.elim
def noRd (R0 R1 R2 R3 : List (List D)) (r : List Int) : Bool := !thW R0 R1 R2 R3 (r.getD 0 0) (r.getD 1 0)
theorem eLR (a b c : Int) (R0 R1 R2 R3 : List (List D)) (K : DV → Prop) : (ask Tryz.prog [(157, sThr)] Tryz.f108 [.agg [.p 0 [.s 0 3 R0 [], .s 0 3 R1 [], .s 0 3 R2 [], .s 0 3 R3 []] 0], .agg [vi a, vi b, vi c]] K) = (K (DV.c (D.v (Value.bool (thr (List.length R0) (List.length R1) (List.length R2) (List.length R3) a b))))) := by kernel_rfl
def sLR : Spec := fun ds Q => match ds with | [.agg [.p 0 [.s 0 3 R0 [], .s 0 3 R1 [], .s 0 3 R2 [], .s 0 3 R3 []] 0], .agg [.v (.int .i64 a), .v (.int .i64 b), .v (.int .i64 c)]] => Q (B (!noRd R0 R1 R2 R3 [a, b, c])) | _ => False
theorem oLR : Zad Tryz.prog 108 sLR := o_of Tryz.func108 (by kernel_rfl) rfl fun ds Q h => by
  unfold sLR at h; split at h
  · rename_i R0 R1 R2 R3 a b c
    refine ⟨_, Zak ((.cons oThr .nil)) mixed Tryz.func108 rfl rfl rfl ?_, rfl, rfl, h⟩
    rw [eLR]; unfold noRd thW; simp only [List.getD_cons_zero, List.getD_cons_succ, Bool.not_not]
    try (cases isRW a <;> simp)
  · exact h.elim
theorem eLR1 (a b c : Int) (R0 R1 R2 R3 : List (List D)) (K : DV → Prop) : (ask Tryz.prog [(108, sLR)] Tryz.f156 [.agg [vi a, vi b, vi c], .c (.p 0 [.f 108 [.f 4294967295 [] [.p 0 [.s 0 3 R0 [], .s 0 3 R1 [], .s 0 3 R2 [], .s 0 3 R3 []] 0]] []] 0)] K) = (K (DV.c (D.v (Value.bool !!noRd R0 R1 R2 R3 [a, b, c])))) := by kernel_rfl
def sLR1 : Spec := fun ds Q => match ds with | [.agg [.v (.int .i64 a), .v (.int .i64 b), .v (.int .i64 c)], .c (.p 0 [.f 108 [.f 4294967295 [] [.p 0 [.s 0 3 R0 [], .s 0 3 R1 [], .s 0 3 R2 [], .s 0 3 R3 []] 0]] []] 0)] => Q (B (noRd R0 R1 R2 R3 [a, b, c])) | _ => False
theorem oLR1 : Zad Tryz.prog 156 sLR1 := o_of Tryz.func156 (by kernel_rfl) rfl fun ds Q h => by
  unfold sLR1 at h; split at h
  · exact ⟨_, Zak (.cons oLR .nil) mixed Tryz.func156 rfl rfl rfl (by rw [eLR1, Bool.not_not]), rfl, rfl, h⟩
  · exact h.elim
def Zea (R0 : List (List D)) (R1 : List (List D)) (R2 : List (List D)) (R3 : List (List D)) (R : List (List D)) (sp : List (List D)) (v : Int) (i : Int) : X := ⟨mkT 19 [(0, aS 3 R sp), (1, .c (.d (.f 156 [] [.p 0 [.f 108 [.f 4294967295 [] [.p 0 [.s 0 3 R0 [], .s 0 3 R1 [], .s 0 3 R2 [], .s 0 3 R3 []] 0]] []] 0]))), (4, ai v), (7, ai R.length), (8, ai i)], [], [], []⟩
def ZeW (R0 : List (List D)) (R1 : List (List D)) (R2 : List (List D)) (R3 : List (List D)) (R : List (List D)) (sp : List (List D)) : Vw := fun y K => wI y 4 fun v => wI y 8 fun i => K (Zea R0 R1 R2 R3 R sp v i)
theorem Zh6 (R0 : List (List D)) (R1 : List (List D)) (R2 : List (List D)) (R3 : List (List D)) (R : List (List D)) (sp : List (List D)) : VwOK (ZeW R0 R1 R2 R3 R sp) := fun y K h => by
  unfold ZeW at h
  obtain ⟨v, h⟩ := Zcc h
  obtain ⟨i, h⟩ := Zcc h
  exact ⟨_, h⟩
theorem Zt6 (R0 : List (List D)) (R1 : List (List D)) (R2 : List (List D)) (R3 : List (List D)) (R sp : List (List D)) (i v : Int) (N : X → Prop) (E : Exit → X → Prop) : (ZbV Tryz.prog (hkA band bor [(156, sLR1)] []) Tryz.f185 0 [] [0, 1, 4, 7, 8] [] (ZeW R0 R1 R2 R3 R sp) (ZeW R0 R1 R2 R3 R sp) N E (Zea R0 R1 R2 R3 R sp v i)) = (bif decide (i < @Nat.cast Int _ (List.length R)) then bif decide (0 ≤ i) && decide (i < @Nat.cast Int _ (List.length R)) then bif isJ [IntKind.i64, IntKind.i64, IntKind.i64] (List.drop (0) (List.getD R (Int.toNat i) [])) then bif noRd R0 R1 R2 R3 [hdJ (List.drop (0) (List.getD R (Int.toNat i) [])), hdJ (List.tail (List.drop (0) (List.getD R (Int.toNat i) []))), hdJ (List.tail (List.tail (List.drop (0) (List.getD R (Int.toNat i) []))))] then Zea R0 R1 R2 R3 R sp i i = Zea R0 R1 R2 R3 R sp i i ∧ E Exit.ret (Zea R0 R1 R2 R3 R sp i i) else Zea R0 R1 R2 R3 R sp v (IntKind.wrap IntKind.i64 (i + 1)) = Zea R0 R1 R2 R3 R sp v (IntKind.wrap IntKind.i64 (i + 1)) ∧ N (Zea R0 R1 R2 R3 R sp v (IntKind.wrap IntKind.i64 (i + 1))) else False else False else Zea R0 R1 R2 R3 R sp v i = Zea R0 R1 R2 R3 R sp v i ∧ E (Exit.exit (0)) (Zea R0 R1 R2 R3 R sp v i)) := by kernel_rfl
def Zst (R0 : List (List D)) (R1 : List (List D)) (R2 : List (List D)) (R3 : List (List D)) (l : List (List Int)) (sp : List (List D)) : LSum := Zdv [0, 1, 4, 7, 8] [] (fun i => Zea R0 R1 R2 R3 (mZ l) sp 0 i) (fun i => Zea R0 R1 R2 R3 (mZ l) sp i i) l.length (fun i => noRd R0 R1 R2 R3 (l.getD i [])) .ret (.exit 0)
theorem Zv0 (R0 : List (List D)) (R1 : List (List D)) (R2 : List (List D)) (R3 : List (List D)) (l : List (List Int)) (sp : List (List D)) (K : DV → Prop) : (askL Tryz.prog [] [(2, Zst R0 R1 R2 R3 l sp)] Tryz.f185 [dS 3 (mZ l) sp, .c (.f 156 [] [.p 0 [.f 108 [.f 4294967295 [] [.p 0 [.s 0 3 R0 [], .s 0 3 R1 [], .s 0 3 R2 [], .s 0 3 R3 []] 0]] []] 0])] K) = (Zea R0 R1 R2 R3 (mZ l) sp (0) (0) = Zea R0 R1 R2 R3 (mZ l) sp (0) (0) ∧ (∀ (i : Nat), firstAt (fun i => noRd R0 R1 R2 R3 (List.getD l i [])) (List.length l) i → K (DV.c (D.v (Value.int IntKind.i64 (@Nat.cast Int _ i))))) ∧ (noneTo (fun i => noRd R0 R1 R2 R3 (List.getD l i [])) (List.length l) → K (DV.c (D.v (Value.int IntKind.i64 (-1)))))) := by kernel_rfl
theorem Zv3 (R0 : List (List D)) (R1 : List (List D)) (R2 : List (List D)) (R3 : List (List D)) {l : List (List Int)} {sp : List (List D)} (hw : wid 3 l) (hn : l.length ≤ 9223372036854775807) (Q : Exit → X → Prop) (x : X) (h : Zst R0 R1 R2 R3 l sp Q x) : XWP Tryz.prog (.loop (Zar Tryz.f185 0)) Q x := by
  refine Zcb (H := hkA band bor [(156, sLR1)] []) (sw := []) (V := ZeW R0 R1 R2 R3 (mZ l) sp) (VE := ZeW R0 R1 R2 R3 (mZ l) sp) (ZaL (.cons oLR1 .nil)) mixed (Zai rfl) (Zh6 R0 R1 R2 R3 (mZ l) sp) (Zh6 R0 R1 R2 R3 (mZ l) sp) _ _ _ _ _ _ (fun i hl N E h1 h2 => ?_) (fun N E h1 => ?_) Q x h
  · rw [Zt6]
    have wi : IntKind.wrap .i64 ((i : Int) + 1) = ((i + 1 : Nat) : Int) := Zan (n := 1) (by omega)
    have hj1 : isJ [IntKind.i64, IntKind.i64, IntKind.i64] ((mZ l).getD i []) = true := Zav (j := 0) (n := 3) hw hl (by omega)
    simp only [Zaf, Int.ofNat_lt, hl, decide_true, cond_true, Int.natCast_nonneg, Bool.and_self, Int.toNat_natCast, ZaM, ZaO, Zbo, hj1, List.drop_zero, ZaJ, true_and, wi]
    have e : noRd R0 R1 R2 R3 (l.getD i []) = noRd R0 R1 R2 R3 [(l.getD i []).getD 0 0, (l.getD i []).getD 1 0, (l.getD i []).getD 2 0] := rfl
    cases ho : noRd R0 R1 R2 R3 (l.getD i []) with
    | false => rw [e] at ho; rw [ho]; exact h2 (by rw [e]; exact ho)
    | true => rw [e] at ho; rw [ho]; exact h1 (by rw [e]; exact ho)
  · rw [Zt6]
    simp only [Zaf, Int.ofNat_lt, Nat.lt_irrefl, decide_false, cond_false, true_and]
    exact h1
def ZsH : Spec := fun ds Q => match ds with | [.c (.s 0 3 R sp), .c (.f 156 [] [.p 0 [.f 108 [.f 4294967295 [] [.p 0 [.s 0 3 R0 [], .s 0 3 R1 [], .s 0 3 R2 [], .s 0 3 R3 []] 0]] []] 0])] => cond (okZ 3 R) (Q (I (match (toZ R).findIdx? (noRd R0 R1 R2 R3) with | some i => (i : Int) | none => -1))) False | _ => False
theorem ZwM : Zad Tryz.prog 185 ZsH := o_of Tryz.func185 (by kernel_rfl) rfl fun ds Q h => by
  unfold ZsH at h; split at h
  · rename_i R sp R0 R1 R2 R3
    obtain ⟨h1, h2⟩ := Zag h
    obtain ⟨e1, w1, n1⟩ := Zah h1
    rw [e1]
    rw [← Zal R] at n1
    generalize toZ R = l at *
    refine ⟨_, ZaC (l := []) (m := [(2, Zst R0 R1 R2 R3 l sp)]) .nil mixed (Za7 rfl (by kernel_rfl) (Zv3 R0 R1 R2 R3 w1 n1)) Tryz.func185 rfl rfl rfl ?_, rfl, rfl, h2⟩
    rw [Zv0]
    refine ⟨rfl, fun i hi => ?_, fun hn => ?_⟩
    · rw [hi.find]
    · rw [hn.find]
  · exact h.elim
theorem Zv7 (R0 : List (List D)) (R1 : List (List D)) (R2 : List (List D)) (R3 : List (List D)) (R sp : List (List D)) (K : DV → Prop) : (ask Tryz.prog [(185, ZsH)] Tryz.f154 [dS 3 R sp, .c (.f 156 [] [.p 0 [.f 108 [.f 4294967295 [] [.p 0 [.s 0 3 R0 [], .s 0 3 R1 [], .s 0 3 R2 [], .s 0 3 R3 []] 0]] []] 0])] K) = (bif okZ (3) R then K (DV.c (D.v (Value.bool (decide ((match List.findIdx? (noRd R0 R1 R2 R3) (toZ R) with | some i => @Nat.cast Int _ i | none => -1) ≥ 0))))) else False) := by kernel_rfl
def ZsK : Spec := fun ds Q => match ds with | [.c (.s 0 3 R sp), .c (.f 156 [] [.p 0 [.f 108 [.f 4294967295 [] [.p 0 [.s 0 3 R0 [], .s 0 3 R1 [], .s 0 3 R2 [], .s 0 3 R3 []] 0]] []] 0])] => cond (okZ 3 R) (Q (B ((toZ R).any (noRd R0 R1 R2 R3)))) False | _ => False
theorem Zv2 : Zad Tryz.prog 154 ZsK := o_of Tryz.func154 (by kernel_rfl) rfl fun ds Q h => by
  unfold ZsK at h; split at h
  · obtain ⟨h1, h2⟩ := Zag h
    refine ⟨_, Zak (.cons ZwM .nil) mixed Tryz.func154 rfl rfl rfl ?_, rfl, rfl, h2⟩
    rw [Zv7, h1, ZeQ]; rfl
  · exact h.elim
theorem Zt7 (R : List (List D)) (R0 R1 R2 R3 : List (List D)) (K : DV → Prop) : (ask Tryz.prog [(154, ZsK)] Tryz.f107 [.c (.s 0 3 R []), .c (.f 108 [.f 4294967295 [] [.p 0 (wsL R0 R1 R2 R3) 0]] [])] K) = (bif okZ (3) R then K (DV.c (D.v (Value.bool !List.any (toZ R) (noRd R0 R1 R2 R3)))) else False) := by kernel_rfl
def Zpk : Spec := fun ds Q => match ds with | [.c d, .c e] => cond d.isOwn False (Zce 3 d fun R => Zgy 108 e fun R0 R1 R2 R3 => cond (okZ 3 R) (Q (B (!(toZ R).any (noRd R0 R1 R2 R3)))) False) | _ => False
theorem Zua : Zad Tryz.prog 107 Zpk := o_al Tryz.func107 (by kernel_rfl) rfl fun ds Q h => by
  unfold Zpk at h; split at h
  · rename_i d e
    cases hd : d.isOwn with
    | true => rw [hd] at h; exact h.elim
    | false =>
      rw [hd] at h
      obtain ⟨R, h, r1⟩ := Zay h
      obtain ⟨R0, R1, R2, R3, h, r2, e2⟩ := Zcv (by decide) h
      obtain ⟨h1, h2⟩ := Zag h
      refine ⟨_, _, .cons (.c r1 hd rfl) (.cons (.c r2 e2 rfl) .nil), Zak (.cons Zv2 .nil) mixed Tryz.func107 rfl rfl rfl ?_, rfl, rfl, h2⟩
      rw [Zt7, h1]; rfl
  · exact h.elim
def noWr (R0 R1 R2 R3 : List (List D)) (r : List Int) : Bool := !thW R0 R1 R2 R3 (r.getD 0 0) (r.getD 1 0)
theorem eLW (a b c : Int) (R0 R1 R2 R3 : List (List D)) (K : DV → Prop) : (ask Tryz.prog [(157, sThr)] Tryz.f110 [.agg [.p 0 [.s 0 3 R0 [], .s 0 3 R1 [], .s 0 3 R2 [], .s 0 3 R3 []] 0], .agg [vi a, vi b, vi c]] K) = (K (DV.c (D.v (Value.bool (thr (List.length R0) (List.length R1) (List.length R2) (List.length R3) a b))))) := by kernel_rfl
def sLW : Spec := fun ds Q => match ds with | [.agg [.p 0 [.s 0 3 R0 [], .s 0 3 R1 [], .s 0 3 R2 [], .s 0 3 R3 []] 0], .agg [.v (.int .i64 a), .v (.int .i64 b), .v (.int .i64 c)]] => Q (B (!noWr R0 R1 R2 R3 [a, b, c])) | _ => False
theorem oLW : Zad Tryz.prog 110 sLW := o_of Tryz.func110 (by kernel_rfl) rfl fun ds Q h => by
  unfold sLW at h; split at h
  · rename_i R0 R1 R2 R3 a b c
    refine ⟨_, Zak ((.cons oThr .nil)) mixed Tryz.func110 rfl rfl rfl ?_, rfl, rfl, h⟩
    rw [eLW]; unfold noWr thW; simp only [List.getD_cons_zero, List.getD_cons_succ, Bool.not_not]
    try (cases isRW a <;> simp)
  · exact h.elim
theorem eLW1 (a b c : Int) (R0 R1 R2 R3 : List (List D)) (K : DV → Prop) : (ask Tryz.prog [(110, sLW)] Tryz.f159 [.agg [vi a, vi b, vi c], .c (.p 0 [.f 110 [.f 4294967295 [] [.p 0 [.s 0 3 R0 [], .s 0 3 R1 [], .s 0 3 R2 [], .s 0 3 R3 []] 0]] []] 0)] K) = (K (DV.c (D.v (Value.bool !!noWr R0 R1 R2 R3 [a, b, c])))) := by kernel_rfl
def sLW1 : Spec := fun ds Q => match ds with | [.agg [.v (.int .i64 a), .v (.int .i64 b), .v (.int .i64 c)], .c (.p 0 [.f 110 [.f 4294967295 [] [.p 0 [.s 0 3 R0 [], .s 0 3 R1 [], .s 0 3 R2 [], .s 0 3 R3 []] 0]] []] 0)] => Q (B (noWr R0 R1 R2 R3 [a, b, c])) | _ => False
theorem oLW1 : Zad Tryz.prog 159 sLW1 := o_of Tryz.func159 (by kernel_rfl) rfl fun ds Q h => by
  unfold sLW1 at h; split at h
  · exact ⟨_, Zak (.cons oLW .nil) mixed Tryz.func159 rfl rfl rfl (by rw [eLW1, Bool.not_not]), rfl, rfl, h⟩
  · exact h.elim
def Zek (R0 : List (List D)) (R1 : List (List D)) (R2 : List (List D)) (R3 : List (List D)) (R : List (List D)) (sp : List (List D)) (v : Int) (i : Int) : X := ⟨mkT 19 [(0, aS 3 R sp), (1, .c (.d (.f 159 [] [.p 0 [.f 110 [.f 4294967295 [] [.p 0 [.s 0 3 R0 [], .s 0 3 R1 [], .s 0 3 R2 [], .s 0 3 R3 []] 0]] []] 0]))), (4, ai v), (7, ai R.length), (8, ai i)], [], [], []⟩
def Zfa (R0 : List (List D)) (R1 : List (List D)) (R2 : List (List D)) (R3 : List (List D)) (R : List (List D)) (sp : List (List D)) : Vw := fun y K => wI y 4 fun v => wI y 8 fun i => K (Zek R0 R1 R2 R3 R sp v i)
theorem ZhK (R0 : List (List D)) (R1 : List (List D)) (R2 : List (List D)) (R3 : List (List D)) (R : List (List D)) (sp : List (List D)) : VwOK (Zfa R0 R1 R2 R3 R sp) := fun y K h => by
  unfold Zfa at h
  obtain ⟨v, h⟩ := Zcc h
  obtain ⟨i, h⟩ := Zcc h
  exact ⟨_, h⟩
theorem ZtR (R0 : List (List D)) (R1 : List (List D)) (R2 : List (List D)) (R3 : List (List D)) (R sp : List (List D)) (i v : Int) (N : X → Prop) (E : Exit → X → Prop) : (ZbV Tryz.prog (hkA band bor [(159, sLW1)] []) Tryz.f187 0 [] [0, 1, 4, 7, 8] [] (Zfa R0 R1 R2 R3 R sp) (Zfa R0 R1 R2 R3 R sp) N E (Zek R0 R1 R2 R3 R sp v i)) = (bif decide (i < @Nat.cast Int _ (List.length R)) then bif decide (0 ≤ i) && decide (i < @Nat.cast Int _ (List.length R)) then bif isJ [IntKind.i64, IntKind.i64, IntKind.i64] (List.drop (0) (List.getD R (Int.toNat i) [])) then bif noWr R0 R1 R2 R3 [hdJ (List.drop (0) (List.getD R (Int.toNat i) [])), hdJ (List.tail (List.drop (0) (List.getD R (Int.toNat i) []))), hdJ (List.tail (List.tail (List.drop (0) (List.getD R (Int.toNat i) []))))] then Zek R0 R1 R2 R3 R sp i i = Zek R0 R1 R2 R3 R sp i i ∧ E Exit.ret (Zek R0 R1 R2 R3 R sp i i) else Zek R0 R1 R2 R3 R sp v (IntKind.wrap IntKind.i64 (i + 1)) = Zek R0 R1 R2 R3 R sp v (IntKind.wrap IntKind.i64 (i + 1)) ∧ N (Zek R0 R1 R2 R3 R sp v (IntKind.wrap IntKind.i64 (i + 1))) else False else False else Zek R0 R1 R2 R3 R sp v i = Zek R0 R1 R2 R3 R sp v i ∧ E (Exit.exit (0)) (Zek R0 R1 R2 R3 R sp v i)) := by kernel_rfl
def Zsw (R0 : List (List D)) (R1 : List (List D)) (R2 : List (List D)) (R3 : List (List D)) (l : List (List Int)) (sp : List (List D)) : LSum := Zdv [0, 1, 4, 7, 8] [] (fun i => Zek R0 R1 R2 R3 (mZ l) sp 0 i) (fun i => Zek R0 R1 R2 R3 (mZ l) sp i i) l.length (fun i => noWr R0 R1 R2 R3 (l.getD i [])) .ret (.exit 0)
theorem ZvC (R0 : List (List D)) (R1 : List (List D)) (R2 : List (List D)) (R3 : List (List D)) (l : List (List Int)) (sp : List (List D)) (K : DV → Prop) : (askL Tryz.prog [] [(2, Zsw R0 R1 R2 R3 l sp)] Tryz.f187 [dS 3 (mZ l) sp, .c (.f 159 [] [.p 0 [.f 110 [.f 4294967295 [] [.p 0 [.s 0 3 R0 [], .s 0 3 R1 [], .s 0 3 R2 [], .s 0 3 R3 []] 0]] []] 0])] K) = (Zek R0 R1 R2 R3 (mZ l) sp (0) (0) = Zek R0 R1 R2 R3 (mZ l) sp (0) (0) ∧ (∀ (i : Nat), firstAt (fun i => noWr R0 R1 R2 R3 (List.getD l i [])) (List.length l) i → K (DV.c (D.v (Value.int IntKind.i64 (@Nat.cast Int _ i))))) ∧ (noneTo (fun i => noWr R0 R1 R2 R3 (List.getD l i [])) (List.length l) → K (DV.c (D.v (Value.int IntKind.i64 (-1)))))) := by kernel_rfl
theorem ZwR (R0 : List (List D)) (R1 : List (List D)) (R2 : List (List D)) (R3 : List (List D)) {l : List (List Int)} {sp : List (List D)} (hw : wid 3 l) (hn : l.length ≤ 9223372036854775807) (Q : Exit → X → Prop) (x : X) (h : Zsw R0 R1 R2 R3 l sp Q x) : XWP Tryz.prog (.loop (Zar Tryz.f187 0)) Q x := by
  refine Zcb (H := hkA band bor [(159, sLW1)] []) (sw := []) (V := Zfa R0 R1 R2 R3 (mZ l) sp) (VE := Zfa R0 R1 R2 R3 (mZ l) sp) (ZaL (.cons oLW1 .nil)) mixed (Zai rfl) (ZhK R0 R1 R2 R3 (mZ l) sp) (ZhK R0 R1 R2 R3 (mZ l) sp) _ _ _ _ _ _ (fun i hl N E h1 h2 => ?_) (fun N E h1 => ?_) Q x h
  · rw [ZtR]
    have wi : IntKind.wrap .i64 ((i : Int) + 1) = ((i + 1 : Nat) : Int) := Zan (n := 1) (by omega)
    have hj1 : isJ [IntKind.i64, IntKind.i64, IntKind.i64] ((mZ l).getD i []) = true := Zav (j := 0) (n := 3) hw hl (by omega)
    simp only [Zaf, Int.ofNat_lt, hl, decide_true, cond_true, Int.natCast_nonneg, Bool.and_self, Int.toNat_natCast, ZaM, ZaO, Zbo, hj1, List.drop_zero, ZaJ, true_and, wi]
    have e : noWr R0 R1 R2 R3 (l.getD i []) = noWr R0 R1 R2 R3 [(l.getD i []).getD 0 0, (l.getD i []).getD 1 0, (l.getD i []).getD 2 0] := rfl
    cases ho : noWr R0 R1 R2 R3 (l.getD i []) with
    | false => rw [e] at ho; rw [ho]; exact h2 (by rw [e]; exact ho)
    | true => rw [e] at ho; rw [ho]; exact h1 (by rw [e]; exact ho)
  · rw [ZtR]
    simp only [Zaf, Int.ofNat_lt, Nat.lt_irrefl, decide_false, cond_false, true_and]
    exact h1
def ZsL : Spec := fun ds Q => match ds with | [.c (.s 0 3 R sp), .c (.f 159 [] [.p 0 [.f 110 [.f 4294967295 [] [.p 0 [.s 0 3 R0 [], .s 0 3 R1 [], .s 0 3 R2 [], .s 0 3 R3 []] 0]] []] 0])] => cond (okZ 3 R) (Q (I (match (toZ R).findIdx? (noWr R0 R1 R2 R3) with | some i => (i : Int) | none => -1))) False | _ => False
theorem Zwg : Zad Tryz.prog 187 ZsL := o_of Tryz.func187 (by kernel_rfl) rfl fun ds Q h => by
  unfold ZsL at h; split at h
  · rename_i R sp R0 R1 R2 R3
    obtain ⟨h1, h2⟩ := Zag h
    obtain ⟨e1, w1, n1⟩ := Zah h1
    rw [e1]
    rw [← Zal R] at n1
    generalize toZ R = l at *
    refine ⟨_, ZaC (l := []) (m := [(2, Zsw R0 R1 R2 R3 l sp)]) .nil mixed (Za7 rfl (by kernel_rfl) (ZwR R0 R1 R2 R3 w1 n1)) Tryz.func187 rfl rfl rfl ?_, rfl, rfl, h2⟩
    rw [ZvC]
    refine ⟨rfl, fun i hi => ?_, fun hn => ?_⟩
    · rw [hi.find]
    · rw [hn.find]
  · exact h.elim
theorem ZwC (R0 : List (List D)) (R1 : List (List D)) (R2 : List (List D)) (R3 : List (List D)) (R sp : List (List D)) (K : DV → Prop) : (ask Tryz.prog [(187, ZsL)] Tryz.f158 [dS 3 R sp, .c (.f 159 [] [.p 0 [.f 110 [.f 4294967295 [] [.p 0 [.s 0 3 R0 [], .s 0 3 R1 [], .s 0 3 R2 [], .s 0 3 R3 []] 0]] []] 0])] K) = (bif okZ (3) R then K (DV.c (D.v (Value.bool (decide ((match List.findIdx? (noWr R0 R1 R2 R3) (toZ R) with | some i => @Nat.cast Int _ i | none => -1) ≥ 0))))) else False) := by kernel_rfl
def ZtF : Spec := fun ds Q => match ds with | [.c (.s 0 3 R sp), .c (.f 159 [] [.p 0 [.f 110 [.f 4294967295 [] [.p 0 [.s 0 3 R0 [], .s 0 3 R1 [], .s 0 3 R2 [], .s 0 3 R3 []] 0]] []] 0])] => cond (okZ 3 R) (Q (B ((toZ R).any (noWr R0 R1 R2 R3)))) False | _ => False
theorem Zwc : Zad Tryz.prog 158 ZtF := o_of Tryz.func158 (by kernel_rfl) rfl fun ds Q h => by
  unfold ZtF at h; split at h
  · obtain ⟨h1, h2⟩ := Zag h
    refine ⟨_, Zak (.cons Zwg .nil) mixed Tryz.func158 rfl rfl rfl ?_, rfl, rfl, h2⟩
    rw [ZwC, h1, ZeQ]; rfl
  · exact h.elim
theorem Zux (R : List (List D)) (R0 R1 R2 R3 : List (List D)) (K : DV → Prop) : (ask Tryz.prog [(158, ZtF)] Tryz.f109 [.c (.s 0 3 R []), .c (.f 110 [.f 4294967295 [] [.p 0 (wsL R0 R1 R2 R3) 0]] [])] K) = (bif okZ (3) R then K (DV.c (D.v (Value.bool !List.any (toZ R) (noWr R0 R1 R2 R3)))) else False) := by kernel_rfl
def ZpM : Spec := fun ds Q => match ds with | [.c d, .c e] => cond d.isOwn False (Zce 3 d fun R => Zgy 110 e fun R0 R1 R2 R3 => cond (okZ 3 R) (Q (B (!(toZ R).any (noWr R0 R1 R2 R3)))) False) | _ => False
theorem Zt3 : Zad Tryz.prog 109 ZpM := o_al Tryz.func109 (by kernel_rfl) rfl fun ds Q h => by
  unfold ZpM at h; split at h
  · rename_i d e
    cases hd : d.isOwn with
    | true => rw [hd] at h; exact h.elim
    | false =>
      rw [hd] at h
      obtain ⟨R, h, r1⟩ := Zay h
      obtain ⟨R0, R1, R2, R3, h, r2, e2⟩ := Zcv (by decide) h
      obtain ⟨h1, h2⟩ := Zag h
      refine ⟨_, _, .cons (.c r1 hd rfl) (.cons (.c r2 e2 rfl) .nil), Zak (.cons Zwc .nil) mixed Tryz.func109 rfl rfl rfl ?_, rfl, rfl, h2⟩
      rw [Zux, h1]; rfl
  · exact h.elim
def noIn (R0 R1 R2 R3 : List (List D)) (r : List Int) : Bool := isRW (r.getD 0 0) && !thW R0 R1 R2 R3 (r.getD 2 0) (r.getD 3 0)
theorem eLI (a b c d : Int) (R0 R1 R2 R3 : List (List D)) (K : DV → Prop) : (ask Tryz.prog [(162, sIWd), (157, sThr)] Tryz.f112 [.agg [.p 0 [.s 0 3 R0 [], .s 0 3 R1 [], .s 0 3 R2 [], .s 0 3 R3 []] 0], .agg [vi a, vi b, vi c, vi d]] K) = (bif !isRW a then K (DV.c (D.v (Value.bool true))) else K (DV.c (D.v (Value.bool (thr (List.length R0) (List.length R1) (List.length R2) (List.length R3) c d))))) := by kernel_rfl
def sLI : Spec := fun ds Q => match ds with | [.agg [.p 0 [.s 0 3 R0 [], .s 0 3 R1 [], .s 0 3 R2 [], .s 0 3 R3 []] 0], .agg [.v (.int .i64 a), .v (.int .i64 b), .v (.int .i64 c), .v (.int .i64 d)]] => Q (B (!noIn R0 R1 R2 R3 [a, b, c, d])) | _ => False
theorem oLI : Zad Tryz.prog 112 sLI := o_of Tryz.func112 (by kernel_rfl) rfl fun ds Q h => by
  unfold sLI at h; split at h
  · rename_i R0 R1 R2 R3 a b c d
    refine ⟨_, Zak (.cons oIWd (.cons oThr .nil)) mixed Tryz.func112 rfl rfl rfl ?_, rfl, rfl, h⟩
    rw [eLI]; unfold noIn thW; simp only [List.getD_cons_zero, List.getD_cons_succ, Bool.not_not]
    try (cases isRW a <;> simp)
  · exact h.elim
theorem eLI1 (a b c d : Int) (R0 R1 R2 R3 : List (List D)) (K : DV → Prop) : (ask Tryz.prog [(112, sLI)] Tryz.f161 [.agg [vi a, vi b, vi c, vi d], .c (.p 0 [.f 112 [.f 4294967295 [] [.p 0 [.s 0 3 R0 [], .s 0 3 R1 [], .s 0 3 R2 [], .s 0 3 R3 []] 0]] []] 0)] K) = (K (DV.c (D.v (Value.bool !!noIn R0 R1 R2 R3 [a, b, c, d])))) := by kernel_rfl
def sLI1 : Spec := fun ds Q => match ds with | [.agg [.v (.int .i64 a), .v (.int .i64 b), .v (.int .i64 c), .v (.int .i64 d)], .c (.p 0 [.f 112 [.f 4294967295 [] [.p 0 [.s 0 3 R0 [], .s 0 3 R1 [], .s 0 3 R2 [], .s 0 3 R3 []] 0]] []] 0)] => Q (B (noIn R0 R1 R2 R3 [a, b, c, d])) | _ => False
theorem oLI1 : Zad Tryz.prog 161 sLI1 := o_of Tryz.func161 (by kernel_rfl) rfl fun ds Q h => by
  unfold sLI1 at h; split at h
  · exact ⟨_, Zak (.cons oLI .nil) mixed Tryz.func161 rfl rfl rfl (by rw [eLI1, Bool.not_not]), rfl, rfl, h⟩
  · exact h.elim
def Zee (R0 : List (List D)) (R1 : List (List D)) (R2 : List (List D)) (R3 : List (List D)) (R : List (List D)) (sp : List (List D)) (v : Int) (i : Int) : X := ⟨mkT 19 [(0, aS 4 R sp), (1, .c (.d (.f 161 [] [.p 0 [.f 112 [.f 4294967295 [] [.p 0 [.s 0 3 R0 [], .s 0 3 R1 [], .s 0 3 R2 [], .s 0 3 R3 []] 0]] []] 0]))), (4, ai v), (7, ai R.length), (8, ai i)], [], [], []⟩
def Zfb (R0 : List (List D)) (R1 : List (List D)) (R2 : List (List D)) (R3 : List (List D)) (R : List (List D)) (sp : List (List D)) : Vw := fun y K => wI y 4 fun v => wI y 8 fun i => K (Zee R0 R1 R2 R3 R sp v i)
theorem ZhF (R0 : List (List D)) (R1 : List (List D)) (R2 : List (List D)) (R3 : List (List D)) (R : List (List D)) (sp : List (List D)) : VwOK (Zfb R0 R1 R2 R3 R sp) := fun y K h => by
  unfold Zfb at h
  obtain ⟨v, h⟩ := Zcc h
  obtain ⟨i, h⟩ := Zcc h
  exact ⟨_, h⟩
theorem Zvk (R0 : List (List D)) (R1 : List (List D)) (R2 : List (List D)) (R3 : List (List D)) (R sp : List (List D)) (i v : Int) (N : X → Prop) (E : Exit → X → Prop) : (ZbV Tryz.prog (hkA band bor [(161, sLI1)] []) Tryz.f188 0 [] [0, 1, 4, 7, 8] [] (Zfb R0 R1 R2 R3 R sp) (Zfb R0 R1 R2 R3 R sp) N E (Zee R0 R1 R2 R3 R sp v i)) = (bif decide (i < @Nat.cast Int _ (List.length R)) then bif decide (0 ≤ i) && decide (i < @Nat.cast Int _ (List.length R)) then bif isJ [IntKind.i64, IntKind.i64, IntKind.i64, IntKind.i64] (List.drop (0) (List.getD R (Int.toNat i) [])) then bif noIn R0 R1 R2 R3 [hdJ (List.drop (0) (List.getD R (Int.toNat i) [])), hdJ (List.tail (List.drop (0) (List.getD R (Int.toNat i) []))), hdJ (List.tail (List.tail (List.drop (0) (List.getD R (Int.toNat i) [])))), hdJ (List.tail (List.tail (List.tail (List.drop (0) (List.getD R (Int.toNat i) [])))))] then Zee R0 R1 R2 R3 R sp i i = Zee R0 R1 R2 R3 R sp i i ∧ E Exit.ret (Zee R0 R1 R2 R3 R sp i i) else Zee R0 R1 R2 R3 R sp v (IntKind.wrap IntKind.i64 (i + 1)) = Zee R0 R1 R2 R3 R sp v (IntKind.wrap IntKind.i64 (i + 1)) ∧ N (Zee R0 R1 R2 R3 R sp v (IntKind.wrap IntKind.i64 (i + 1))) else False else False else Zee R0 R1 R2 R3 R sp v i = Zee R0 R1 R2 R3 R sp v i ∧ E (Exit.exit (0)) (Zee R0 R1 R2 R3 R sp v i)) := by kernel_rfl
def Zs2 (R0 : List (List D)) (R1 : List (List D)) (R2 : List (List D)) (R3 : List (List D)) (l : List (List Int)) (sp : List (List D)) : LSum := Zdv [0, 1, 4, 7, 8] [] (fun i => Zee R0 R1 R2 R3 (mZ l) sp 0 i) (fun i => Zee R0 R1 R2 R3 (mZ l) sp i i) l.length (fun i => noIn R0 R1 R2 R3 (l.getD i [])) .ret (.exit 0)
theorem ZwP (R0 : List (List D)) (R1 : List (List D)) (R2 : List (List D)) (R3 : List (List D)) (l : List (List Int)) (sp : List (List D)) (K : DV → Prop) : (askL Tryz.prog [] [(2, Zs2 R0 R1 R2 R3 l sp)] Tryz.f188 [dS 4 (mZ l) sp, .c (.f 161 [] [.p 0 [.f 112 [.f 4294967295 [] [.p 0 [.s 0 3 R0 [], .s 0 3 R1 [], .s 0 3 R2 [], .s 0 3 R3 []] 0]] []] 0])] K) = (Zee R0 R1 R2 R3 (mZ l) sp (0) (0) = Zee R0 R1 R2 R3 (mZ l) sp (0) (0) ∧ (∀ (i : Nat), firstAt (fun i => noIn R0 R1 R2 R3 (List.getD l i [])) (List.length l) i → K (DV.c (D.v (Value.int IntKind.i64 (@Nat.cast Int _ i))))) ∧ (noneTo (fun i => noIn R0 R1 R2 R3 (List.getD l i [])) (List.length l) → K (DV.c (D.v (Value.int IntKind.i64 (-1)))))) := by kernel_rfl
theorem ZwI (R0 : List (List D)) (R1 : List (List D)) (R2 : List (List D)) (R3 : List (List D)) {l : List (List Int)} {sp : List (List D)} (hw : wid 4 l) (hn : l.length ≤ 9223372036854775807) (Q : Exit → X → Prop) (x : X) (h : Zs2 R0 R1 R2 R3 l sp Q x) : XWP Tryz.prog (.loop (Zar Tryz.f188 0)) Q x := by
  refine Zcb (H := hkA band bor [(161, sLI1)] []) (sw := []) (V := Zfb R0 R1 R2 R3 (mZ l) sp) (VE := Zfb R0 R1 R2 R3 (mZ l) sp) (ZaL (.cons oLI1 .nil)) mixed (Zai rfl) (ZhF R0 R1 R2 R3 (mZ l) sp) (ZhF R0 R1 R2 R3 (mZ l) sp) _ _ _ _ _ _ (fun i hl N E h1 h2 => ?_) (fun N E h1 => ?_) Q x h
  · rw [Zvk]
    have wi : IntKind.wrap .i64 ((i : Int) + 1) = ((i + 1 : Nat) : Int) := Zan (n := 1) (by omega)
    have hj1 : isJ [IntKind.i64, IntKind.i64, IntKind.i64, IntKind.i64] ((mZ l).getD i []) = true := Zav (j := 0) (n := 4) hw hl (by omega)
    simp only [Zaf, Int.ofNat_lt, hl, decide_true, cond_true, Int.natCast_nonneg, Bool.and_self, Int.toNat_natCast, ZaM, ZaO, Zbo, hj1, List.drop_zero, ZaJ, true_and, wi]
    have e : noIn R0 R1 R2 R3 (l.getD i []) = noIn R0 R1 R2 R3 [(l.getD i []).getD 0 0, (l.getD i []).getD 1 0, (l.getD i []).getD 2 0, (l.getD i []).getD 3 0] := rfl
    cases ho : noIn R0 R1 R2 R3 (l.getD i []) with
    | false => rw [e] at ho; rw [ho]; exact h2 (by rw [e]; exact ho)
    | true => rw [e] at ho; rw [ho]; exact h1 (by rw [e]; exact ho)
  · rw [Zvk]
    simp only [Zaf, Int.ofNat_lt, Nat.lt_irrefl, decide_false, cond_false, true_and]
    exact h1
def Ztd : Spec := fun ds Q => match ds with | [.c (.s 0 4 R sp), .c (.f 161 [] [.p 0 [.f 112 [.f 4294967295 [] [.p 0 [.s 0 3 R0 [], .s 0 3 R1 [], .s 0 3 R2 [], .s 0 3 R3 []] 0]] []] 0])] => cond (okZ 4 R) (Q (I (match (toZ R).findIdx? (noIn R0 R1 R2 R3) with | some i => (i : Int) | none => -1))) False | _ => False
theorem ZwV : Zad Tryz.prog 188 Ztd := o_of Tryz.func188 (by kernel_rfl) rfl fun ds Q h => by
  unfold Ztd at h; split at h
  · rename_i R sp R0 R1 R2 R3
    obtain ⟨h1, h2⟩ := Zag h
    obtain ⟨e1, w1, n1⟩ := Zah h1
    rw [e1]
    rw [← Zal R] at n1
    generalize toZ R = l at *
    refine ⟨_, ZaC (l := []) (m := [(2, Zs2 R0 R1 R2 R3 l sp)]) .nil mixed (Za7 rfl (by kernel_rfl) (ZwI R0 R1 R2 R3 w1 n1)) Tryz.func188 rfl rfl rfl ?_, rfl, rfl, h2⟩
    rw [ZwP]
    refine ⟨rfl, fun i hi => ?_, fun hn => ?_⟩
    · rw [hi.find]
    · rw [hn.find]
  · exact h.elim
theorem ZvT (R0 : List (List D)) (R1 : List (List D)) (R2 : List (List D)) (R3 : List (List D)) (R sp : List (List D)) (K : DV → Prop) : (ask Tryz.prog [(188, Ztd)] Tryz.f160 [dS 4 R sp, .c (.f 161 [] [.p 0 [.f 112 [.f 4294967295 [] [.p 0 [.s 0 3 R0 [], .s 0 3 R1 [], .s 0 3 R2 [], .s 0 3 R3 []] 0]] []] 0])] K) = (bif okZ (4) R then K (DV.c (D.v (Value.bool (decide ((match List.findIdx? (noIn R0 R1 R2 R3) (toZ R) with | some i => @Nat.cast Int _ i | none => -1) ≥ 0))))) else False) := by kernel_rfl
def Zsu : Spec := fun ds Q => match ds with | [.c (.s 0 4 R sp), .c (.f 161 [] [.p 0 [.f 112 [.f 4294967295 [] [.p 0 [.s 0 3 R0 [], .s 0 3 R1 [], .s 0 3 R2 [], .s 0 3 R3 []] 0]] []] 0])] => cond (okZ 4 R) (Q (B ((toZ R).any (noIn R0 R1 R2 R3)))) False | _ => False
theorem Zvx : Zad Tryz.prog 160 Zsu := o_of Tryz.func160 (by kernel_rfl) rfl fun ds Q h => by
  unfold Zsu at h; split at h
  · obtain ⟨h1, h2⟩ := Zag h
    refine ⟨_, Zak (.cons ZwV .nil) mixed Tryz.func160 rfl rfl rfl ?_, rfl, rfl, h2⟩
    rw [ZvT, h1, ZeQ]; rfl
  · exact h.elim
theorem Zt5 (R : List (List D)) (R0 R1 R2 R3 : List (List D)) (K : DV → Prop) : (ask Tryz.prog [(160, Zsu)] Tryz.f111 [.c (.s 0 4 R []), .c (.f 112 [.f 4294967295 [] [.p 0 (wsL R0 R1 R2 R3) 0]] [])] K) = (bif okZ (4) R then K (DV.c (D.v (Value.bool !List.any (toZ R) (noIn R0 R1 R2 R3)))) else False) := by kernel_rfl
def Zod : Spec := fun ds Q => match ds with | [.c d, .c e] => cond d.isOwn False (Zce 4 d fun R => Zgy 112 e fun R0 R1 R2 R3 => cond (okZ 4 R) (Q (B (!(toZ R).any (noIn R0 R1 R2 R3)))) False) | _ => False
theorem Zuk : Zad Tryz.prog 111 Zod := o_al Tryz.func111 (by kernel_rfl) rfl fun ds Q h => by
  unfold Zod at h; split at h
  · rename_i d e
    cases hd : d.isOwn with
    | true => rw [hd] at h; exact h.elim
    | false =>
      rw [hd] at h
      obtain ⟨R, h, r1⟩ := Zay h
      obtain ⟨R0, R1, R2, R3, h, r2, e2⟩ := Zcv (by decide) h
      obtain ⟨h1, h2⟩ := Zag h
      refine ⟨_, _, .cons (.c r1 hd rfl) (.cons (.c r2 e2 rfl) .nil), Zak (.cons Zvx .nil) mixed Tryz.func111 rfl rfl rfl ?_, rfl, rfl, h2⟩
      rw [Zt5, h1]; rfl
  · exact h.elim
theorem eLE (a b c d : Int) (K : DV → Prop) : (ask Tryz.prog [(64, sB lab)] Tryz.f63 [.agg [vi a, vi b, vi c, vi d]] K) = (K (DV.c (D.v (Value.bool (lab b))))) := by kernel_rfl
def sLE : Spec := fun ds Q => match ds with | [.agg [.v (.int .i64 a), .v (.int .i64 b), .v (.int .i64 c), .v (.int .i64 d)]] => Q (B (lab b)) | _ => False
theorem oLE : Zad Tryz.prog 63 sLE := o_of Tryz.func63 (by kernel_rfl) rfl fun ds Q h => by
  unfold sLE at h; split at h
  · exact ⟨_, Zak (.cons oLab .nil) mixed Tryz.func63 rfl rfl rfl (by rw [eLE]), rfl, rfl, h⟩
  · exact h.elim
def noEv (r : List Int) : Bool := !lab (r.getD 1 0)
theorem eLE1 (a b c d : Int) (K : DV → Prop) : (ask Tryz.prog [(63, sLE)] Tryz.f117 [.agg [vi a, vi b, vi c, vi d], .c (.p 0 [.f 63 [] []] 0)] K) = (K (DV.c (D.v (Value.bool !lab b)))) := by kernel_rfl
def sLE1 : Spec := fun ds Q => match ds with | [.agg [.v (.int .i64 a), .v (.int .i64 b), .v (.int .i64 c), .v (.int .i64 d)], .c (.p 0 [.f 63 [] []] 0)] => Q (B (noEv [a, b, c, d])) | _ => False
theorem oLE1 : Zad Tryz.prog 117 sLE1 := o_of Tryz.func117 (by kernel_rfl) rfl fun ds Q h => by
  unfold sLE1 at h; split at h
  · exact ⟨_, Zak (.cons oLE .nil) mixed Tryz.func117 rfl rfl rfl (by rw [eLE1]; rfl), rfl, rfl, h⟩
  · exact h.elim
def Zed (R : List (List D)) (sp : List (List D)) (v : Int) (i : Int) : X := ⟨mkT 19 [(0, aS 4 R sp), (1, .c (.d (.f 117 [] [.p 0 [.f 63 [] []] 0]))), (4, ai v), (7, ai R.length), (8, ai i)], [], [], []⟩
def Ze4 (R : List (List D)) (sp : List (List D)) : Vw := fun y K => wI y 4 fun v => wI y 8 fun i => K (Zed R sp v i)
theorem ZhA (R : List (List D)) (sp : List (List D)) : VwOK (Ze4 R sp) := fun y K h => by
  unfold Ze4 at h
  obtain ⟨v, h⟩ := Zcc h
  obtain ⟨i, h⟩ := Zcc h
  exact ⟨_, h⟩
theorem Zt0  (R sp : List (List D)) (i v : Int) (N : X → Prop) (E : Exit → X → Prop) : (ZbV Tryz.prog (hkA band bor [(117, sLE1)] []) Tryz.f163 0 [] [0, 1, 4, 7, 8] [] (Ze4  R sp) (Ze4  R sp) N E (Zed  R sp v i)) = (bif decide (i < @Nat.cast Int _ (List.length R)) then bif decide (0 ≤ i) && decide (i < @Nat.cast Int _ (List.length R)) then bif isJ [IntKind.i64, IntKind.i64, IntKind.i64, IntKind.i64] (List.drop (0) (List.getD R (Int.toNat i) [])) then bif noEv [hdJ (List.drop (0) (List.getD R (Int.toNat i) [])), hdJ (List.tail (List.drop (0) (List.getD R (Int.toNat i) []))), hdJ (List.tail (List.tail (List.drop (0) (List.getD R (Int.toNat i) [])))), hdJ (List.tail (List.tail (List.tail (List.drop (0) (List.getD R (Int.toNat i) [])))))] then Zed R sp i i = Zed R sp i i ∧ E Exit.ret (Zed R sp i i) else Zed R sp v (IntKind.wrap IntKind.i64 (i + 1)) = Zed R sp v (IntKind.wrap IntKind.i64 (i + 1)) ∧ N (Zed R sp v (IntKind.wrap IntKind.i64 (i + 1))) else False else False else Zed R sp v i = Zed R sp v i ∧ E (Exit.exit (0)) (Zed R sp v i)) := by kernel_rfl
def ZsI  (l : List (List Int)) (sp : List (List D)) : LSum := Zdv [0, 1, 4, 7, 8] [] (fun i => Zed  (mZ l) sp 0 i) (fun i => Zed  (mZ l) sp i i) l.length (fun i => noEv  (l.getD i [])) .ret (.exit 0)
theorem ZvZ  (l : List (List Int)) (sp : List (List D)) (K : DV → Prop) : (askL Tryz.prog [] [(2, ZsI  l sp)] Tryz.f163 [dS 4 (mZ l) sp, .c (.f 117 [] [.p 0 [.f 63 [] []] 0])] K) = (Zed (mZ l) sp (0) (0) = Zed (mZ l) sp (0) (0) ∧ (∀ (i : Nat), firstAt (fun i => noEv (List.getD l i [])) (List.length l) i → K (DV.c (D.v (Value.int IntKind.i64 (@Nat.cast Int _ i))))) ∧ (noneTo (fun i => noEv (List.getD l i [])) (List.length l) → K (DV.c (D.v (Value.int IntKind.i64 (-1)))))) := by kernel_rfl
theorem Zwf  {l : List (List Int)} {sp : List (List D)} (hw : wid 4 l) (hn : l.length ≤ 9223372036854775807) (Q : Exit → X → Prop) (x : X) (h : ZsI  l sp Q x) : XWP Tryz.prog (.loop (Zar Tryz.f163 0)) Q x := by
  refine Zcb (H := hkA band bor [(117, sLE1)] []) (sw := []) (V := Ze4  (mZ l) sp) (VE := Ze4  (mZ l) sp) (ZaL (.cons oLE1 .nil)) mixed (Zai rfl) (ZhA  (mZ l) sp) (ZhA  (mZ l) sp) _ _ _ _ _ _ (fun i hl N E h1 h2 => ?_) (fun N E h1 => ?_) Q x h
  · rw [Zt0]
    have wi : IntKind.wrap .i64 ((i : Int) + 1) = ((i + 1 : Nat) : Int) := Zan (n := 1) (by omega)
    have hj1 : isJ [IntKind.i64, IntKind.i64, IntKind.i64, IntKind.i64] ((mZ l).getD i []) = true := Zav (j := 0) (n := 4) hw hl (by omega)
    simp only [Zaf, Int.ofNat_lt, hl, decide_true, cond_true, Int.natCast_nonneg, Bool.and_self, Int.toNat_natCast, ZaM, ZaO, Zbo, hj1, List.drop_zero, ZaJ, true_and, wi]
    have e : noEv  (l.getD i []) = noEv  [(l.getD i []).getD 0 0, (l.getD i []).getD 1 0, (l.getD i []).getD 2 0, (l.getD i []).getD 3 0] := rfl
    cases ho : noEv  (l.getD i []) with
    | false => rw [e] at ho; rw [ho]; exact h2 (by rw [e]; exact ho)
    | true => rw [e] at ho; rw [ho]; exact h1 (by rw [e]; exact ho)
  · rw [Zt0]
    simp only [Zaf, Int.ofNat_lt, Nat.lt_irrefl, decide_false, cond_false, true_and]
    exact h1
def ZsV : Spec := fun ds Q => match ds with | [.c (.s 0 4 R sp), .c (.f 117 [] [.p 0 [.f 63 [] []] 0])] => cond (okZ 4 R) (Q (I (match (toZ R).findIdx? (noEv ) with | some i => (i : Int) | none => -1))) False | _ => False
theorem ZvS : Zad Tryz.prog 163 ZsV := o_of Tryz.func163 (by kernel_rfl) rfl fun ds Q h => by
  unfold ZsV at h; split at h
  · rename_i R sp 
    obtain ⟨h1, h2⟩ := Zag h
    obtain ⟨e1, w1, n1⟩ := Zah h1
    rw [e1]
    rw [← Zal R] at n1
    generalize toZ R = l at *
    refine ⟨_, ZaC (l := []) (m := [(2, ZsI  l sp)]) .nil mixed (Za7 rfl (by kernel_rfl) (Zwf  w1 n1)) Tryz.func163 rfl rfl rfl ?_, rfl, rfl, h2⟩
    rw [ZvZ]
    refine ⟨rfl, fun i hi => ?_, fun hn => ?_⟩
    · rw [hi.find]
    · rw [hn.find]
  · exact h.elim
theorem ZwT  (R sp : List (List D)) (K : DV → Prop) : (ask Tryz.prog [(163, ZsV)] Tryz.f116 [dS 4 R sp, .c (.f 117 [] [.p 0 [.f 63 [] []] 0])] K) = (bif okZ (4) R then K (DV.c (D.v (Value.bool (decide ((match List.findIdx? noEv (toZ R) with | some i => @Nat.cast Int _ i | none => -1) ≥ 0))))) else False) := by kernel_rfl
def Ztb : Spec := fun ds Q => match ds with | [.c (.s 0 4 R sp), .c (.f 117 [] [.p 0 [.f 63 [] []] 0])] => cond (okZ 4 R) (Q (B ((toZ R).any (noEv )))) False | _ => False
theorem Zv4 : Zad Tryz.prog 116 Ztb := o_of Tryz.func116 (by kernel_rfl) rfl fun ds Q h => by
  unfold Ztb at h; split at h
  · obtain ⟨h1, h2⟩ := Zag h
    refine ⟨_, Zak (.cons ZvS .nil) mixed Tryz.func116 rfl rfl rfl ?_, rfl, rfl, h2⟩
    rw [ZwT, h1, ZeQ]; rfl
  · exact h.elim
theorem Zuw (R : List (List D)) (K : DV → Prop) : (ask Tryz.prog [(116, Ztb)] Tryz.f67 [.c (.s 0 4 R []), .c (.f 63 [] [])] K) = (bif okZ (4) R then K (DV.c (D.v (Value.bool !List.any (toZ R) noEv))) else False) := by kernel_rfl
def Zgc : Spec := fun ds Q => match ds with | [.c d, .c (.f 63 [] [])] => cond d.isOwn False (Zce 4 d fun R => cond (okZ 4 R) (Q (B (!(toZ R).any noEv))) False) | _ => False
theorem Zkh : Zad Tryz.prog 67 Zgc := o_al Tryz.func67 (by kernel_rfl) rfl fun ds Q h => by
  unfold Zgc at h; split at h
  · rename_i d
    cases hd : d.isOwn with
    | true => rw [hd] at h; exact h.elim
    | false =>
      rw [hd] at h
      obtain ⟨R, h, r1⟩ := Zay h
      obtain ⟨h1, h2⟩ := Zag h
      refine ⟨_, _, .cons (.c r1 hd rfl) (.cons (.refl _) .nil), Zak (.cons Zv4 .nil) mixed Tryz.func67 rfl rfl rfl ?_, rfl, rfl, h2⟩
      rw [Zuw, h1]; rfl
  · exact h.elim
theorem eMIn (x m : Int) (K : DV → Prop) : (ask Tryz.prog [] Tryz.f113 [I x, I m] K) = (bif decide (x ≥ 0) then K (DV.c (D.v (Value.bool (decide (x ≤ m))))) else K (DV.c (D.v (Value.bool false)))) := by kernel_rfl
theorem oMIn : Zad Tryz.prog 113 sIn := o_of Tryz.func113 (by kernel_rfl) rfl fun ds Q h => by
  unfold sIn at h; split at h
  · refine ⟨_, Zak .nil mixed Tryz.func113 rfl rfl rfl ?_, rfl, rfl, h⟩
    rw [eMIn]; rename_i x m; unfold upto; cases decide (x ≥ 0) <;> rfl
  · exact h.elim
def mx (a b : Int) : Int := if b > a then b else a
def mx4 (a b c d : Int) : Int := mx (mx (mx a b) c) d
theorem eMx4 (a b c d : Int) (K : DV → Prop) : (ask Tryz.prog [] Tryz.f62 [.c (.s 0 1 [[vi a], [vi b], [vi c], [vi d]] [])] K) = K (I (mx4 a b c d)) := by kernel_rfl
def sMx : Spec := fun ds Q => match ds with | [.c (.s 0 1 [[.v (.int .i64 a)], [.v (.int .i64 b)], [.v (.int .i64 c)], [.v (.int .i64 d)]] [])] => Q (I (mx4 a b c d)) | _ => False
theorem oMx : Zad Tryz.prog 62 sMx := o_of Tryz.func62 (by kernel_rfl) rfl fun ds Q h => by
  unfold sMx at h; split at h
  · rename_i a b c d
    exact ⟨_, Zak .nil mixed Tryz.func62 rfl rfl rfl (by rw [eMx4]), rfl, rfl, h⟩
  · exact h.elim
end

section
open Go Go.Proofs
def SesD.on (q : SesD) (p r w : List (List Int)) : SesD := { q with pg := mZ p, rd := mZ r, wt := mZ w }
def ZaD (s : SesD) : Bool := okZ 4 s.pg && (okZ 3 s.rd && okZ 3 s.wt)
theorem ZnU {s : SesD} (h : ZaD s = true) : s = s.on (toZ s.pg) (toZ s.rd) (toZ s.wt) ∧ (wid 4 (toZ s.pg) ∧ (toZ s.pg).length ≤ 9223372036854775807) ∧ (wid 3 (toZ s.rd) ∧ (toZ s.rd).length ≤ 9223372036854775807) ∧ (wid 3 (toZ s.wt) ∧ (toZ s.wt).length ≤ 9223372036854775807) := by
  unfold ZaD at h
  simp only [Bool.and_eq_true] at h
  obtain ⟨h1, h2, h3⟩ := h
  obtain ⟨a1, a2, a3⟩ := Zah h1
  obtain ⟨b1, b2, b3⟩ := Zah h2
  obtain ⟨c1, c2, c3⟩ := Zah h3
  refine ⟨?_, ⟨a2, by rw [Zal]; exact a3⟩, ⟨b2, by rw [Zal]; exact b3⟩, ⟨c2, by rw [Zal]; exact c3⟩⟩
  obtain ⟨id, lb, cl, pg, st, pc, r0, r1, r2, r3, rd, wt, at', sp, tr, rs, to⟩ := s
  simp only [SesD.on] at a1 b1 c1 ⊢
  rw [← a1, ← b1, ← c1]
def Zcg (R0 : List (List D)) (R1 : List (List D)) (R2 : List (List D)) (R3 : List (List D)) (q : SesD) (v : Bool) (i : Int) : X := ⟨mkT 70 [(2, .c (.rp 3 0 4 0 0)), (3, .c (.rp 4 0 17 0 0)), (4, ab v), (5, ai i)], [(3, .bx 0 4 [.d (.s 0 3 R0 []), .d (.s 0 3 R1 []), .d (.s 0 3 R2 []), .d (.s 0 3 R3 [])]), (4, .bx 0 17 ((sesL 0 q).map C.d))], [], []⟩
def ZeV (R0 : List (List D)) (R1 : List (List D)) (R2 : List (List D)) (R3 : List (List D)) (q : SesD) : Vw := fun y K => wB y 4 fun v => wI y 5 fun i => K (Zcg R0 R1 R2 R3 q v i)
theorem Zh4 (R0 : List (List D)) (R1 : List (List D)) (R2 : List (List D)) (R3 : List (List D)) (q : SesD) : VwOK (ZeV R0 R1 R2 R3 q) := fun y K h => by
  unfold ZeV at h
  obtain ⟨v, h⟩ := Zdx h
  obtain ⟨i, h⟩ := Zcc h
  exact ⟨_, h⟩
theorem rWd1 (R0 : List (List D)) (R1 : List (List D)) (R2 : List (List D)) (R3 : List (List D)) (q : SesD) (v : Bool) (i : Int) (N : X → Prop) (E : Exit → X → Prop) : (ZcR Tryz.prog (hkA band bor [(164, Zfm)] []) Tryz.f120 0 [] [2, 3, 4, 5] [3, 4] (ZeV R0 R1 R2 R3 q) (fun _ => ZeV R0 R1 R2 R3 q) N E (Zcg R0 R1 R2 R3 q v i)) = (bif decide (i < @Nat.cast Int _ (List.length q.pg)) then bif decide (0 ≤ i) && decide (i < @Nat.cast Int _ (List.length q.pg)) then bif isJ [IntKind.i64] (List.drop (0) (List.getD q.pg (Int.toNat i) [])) then bif hdJ (List.drop (0) (List.getD q.pg (Int.toNat i) [])) == 2 then bif decide (0 ≤ i) && decide (i < @Nat.cast Int _ (List.length q.pg)) then bif isJ [IntKind.i64] (List.drop (2) (List.getD q.pg (Int.toNat i) [])) then bif decide (0 ≤ i) && decide (i < @Nat.cast Int _ (List.length q.pg)) then bif isJ [IntKind.i64] (List.drop (3) (List.getD q.pg (Int.toNat i) [])) then bif !thr (List.length R0) (List.length R1) (List.length R2) (List.length R3) (hdJ (List.drop (2) (List.getD q.pg (Int.toNat i) []))) (hdJ (List.drop (3) (List.getD q.pg (Int.toNat i) []))) then Zcg R0 R1 R2 R3 q false i = Zcg R0 R1 R2 R3 q false i ∧ E Exit.ret (Zcg R0 R1 R2 R3 q false i) else Zcg R0 R1 R2 R3 q v (IntKind.wrap IntKind.i64 (i + 1)) = Zcg R0 R1 R2 R3 q v (IntKind.wrap IntKind.i64 (i + 1)) ∧ N (Zcg R0 R1 R2 R3 q v (IntKind.wrap IntKind.i64 (i + 1))) else False else False else False else False else bif hdJ (List.drop (0) (List.getD q.pg (Int.toNat i) [])) == 3 then bif decide (0 ≤ i) && decide (i < @Nat.cast Int _ (List.length q.pg)) then bif isJ [IntKind.i64] (List.drop (2) (List.getD q.pg (Int.toNat i) [])) then bif decide (0 ≤ i) && decide (i < @Nat.cast Int _ (List.length q.pg)) then bif isJ [IntKind.i64] (List.drop (3) (List.getD q.pg (Int.toNat i) [])) then bif !thr (List.length R0) (List.length R1) (List.length R2) (List.length R3) (hdJ (List.drop (2) (List.getD q.pg (Int.toNat i) []))) (hdJ (List.drop (3) (List.getD q.pg (Int.toNat i) []))) then Zcg R0 R1 R2 R3 q false i = Zcg R0 R1 R2 R3 q false i ∧ E Exit.ret (Zcg R0 R1 R2 R3 q false i) else Zcg R0 R1 R2 R3 q v (IntKind.wrap IntKind.i64 (i + 1)) = Zcg R0 R1 R2 R3 q v (IntKind.wrap IntKind.i64 (i + 1)) ∧ N (Zcg R0 R1 R2 R3 q v (IntKind.wrap IntKind.i64 (i + 1))) else False else False else False else False else Zcg R0 R1 R2 R3 q v (IntKind.wrap IntKind.i64 (i + 1)) = Zcg R0 R1 R2 R3 q v (IntKind.wrap IntKind.i64 (i + 1)) ∧ N (Zcg R0 R1 R2 R3 q v (IntKind.wrap IntKind.i64 (i + 1))) else False else False else Zcg R0 R1 R2 R3 q v i = Zcg R0 R1 R2 R3 q v i ∧ E (Exit.exit (0)) (Zcg R0 R1 R2 R3 q v i)) := by kernel_rfl
def fWd1 (a b c d : List (List Int)) (q : SesD) (p r w : List (List Int)) : LSum := Zdv [2, 3, 4, 5] [3, 4] (fun i => Zcg (mZ a) (mZ b) (mZ c) (mZ d) (q.on p r w) false i) (fun i => Zcg (mZ a) (mZ b) (mZ c) (mZ d) (q.on p r w) false i) p.length (fun i => noIn (mZ a) (mZ b) (mZ c) (mZ d) (p.getD i [])) .ret (.exit 0)
theorem kWd1 {a b c d : List (List Int)} {q : SesD} {p r w : List (List Int)} (hw : wid 4 p) (hn : p.length ≤ 9223372036854775807) (Q : Exit → X → Prop) (x : X) (h : fWd1 a b c d q p r w Q x) : XWP Tryz.prog (.loop (Zar Tryz.f120 0)) Q x := by
  refine Zcm (sw := []) (V := ZeV (mZ a) (mZ b) (mZ c) (mZ d) (q.on p r w)) (VE := fun _ => ZeV (mZ a) (mZ b) (mZ c) (mZ d) (q.on p r w)) mixed (Zh4 (mZ a) (mZ b) (mZ c) (mZ d) (q.on p r w)) (fun _ => Zh4 (mZ a) (mZ b) (mZ c) (mZ d) (q.on p r w)) _ _ _ _ _ _ (fun i hl => ⟨hkA band bor [(164, Zfm)] [], ZaL (.cons Zjq .nil), Zai rfl, fun N E h1 h2 => ?_⟩) ⟨hkA band bor [(164, Zfm)] [], ZaL (.cons Zjq .nil), Zai rfl, fun N E h1 => ?_⟩ Q x h
  · rw [rWd1]
    have wi : IntKind.wrap .i64 ((i : Int) + 1) = ((i + 1 : Nat) : Int) := Zan (n := 1) (by omega)
    have a0 : isJ [IntKind.i64] ((mZ p).getD i []) = true := Zav (j := 0) (n := 1) hw hl (by omega)
    have a1 : isJ [IntKind.i64] (List.drop 1 ((mZ p).getD i [])) = true := Zav (j := 1) (n := 1) hw hl (by omega)
    have a2 : isJ [IntKind.i64] (List.drop 2 ((mZ p).getD i [])) = true := Zav (j := 2) (n := 1) hw hl (by omega)
    have a3 : isJ [IntKind.i64] (List.drop 3 ((mZ p).getD i [])) = true := Zav (j := 3) (n := 1) hw hl (by omega)
    have a9 : isJ [IntKind.i64, IntKind.i64, IntKind.i64, IntKind.i64] ((mZ p).getD i []) = true := Zav (j := 0) (n := 4) hw hl (by omega)
    simp only [SesD.on, Zaf, Int.ofNat_lt, hl, decide_true, cond_true, Int.natCast_nonneg, Bool.and_self, Int.toNat_natCast, a0, a1, a2, a3, a9, List.drop_zero, ZaJ, ZbL, ZaM, ZaO, Zbo, true_and, wi] at h1 h2 ⊢
    unfold noIn thW at h1 h2
    simp only [Zaf] at h1 h2
    unfold isRW at h1 h2
    generalize thr a.length b.length c.length d.length ((p.getD i []).getD 2 0) ((p.getD i []).getD 3 0) = u at h1 h2 ⊢
    cases e2 : ((p.getD i []).getD 0 0 == 2) <;> cases e3 : ((p.getD i []).getD 0 0 == 3) <;> cases u <;> simp only [e2, e3, cond_true, cond_false, Bool.not_true, Bool.not_false, Bool.and_true, Bool.and_false, Bool.true_and, Bool.false_and, forall_const, reduceCtorEq, false_implies] at h1 h2 ⊢ <;> first | exact h1 | exact h2 | exact h1 trivial | exact h2 trivial
  · rw [rWd1]
    simp only [SesD.on, Zaf, Int.ofNat_lt, Nat.lt_irrefl, decide_false, cond_false, true_and]
    exact h1
def Zef (R0 : List (List D)) (R1 : List (List D)) (R2 : List (List D)) (R3 : List (List D)) (q : SesD) (v : Bool) (i : Int) : X := ⟨mkT 70 [(2, .c (.rp 3 0 4 0 0)), (3, .c (.rp 4 0 17 0 0)), (4, ab v), (7, ai i)], [(3, .bx 0 4 [.d (.s 0 3 R0 []), .d (.s 0 3 R1 []), .d (.s 0 3 R2 []), .d (.s 0 3 R3 [])]), (4, .bx 0 17 ((sesL 0 q).map C.d))], [], []⟩
def Zfk (R0 : List (List D)) (R1 : List (List D)) (R2 : List (List D)) (R3 : List (List D)) (q : SesD) : Vw := fun y K => wB y 4 fun v => wI y 7 fun i => K (Zef R0 R1 R2 R3 q v i)
theorem ZhN (R0 : List (List D)) (R1 : List (List D)) (R2 : List (List D)) (R3 : List (List D)) (q : SesD) : VwOK (Zfk R0 R1 R2 R3 q) := fun y K h => by
  unfold Zfk at h
  obtain ⟨v, h⟩ := Zdx h
  obtain ⟨i, h⟩ := Zcc h
  exact ⟨_, h⟩
theorem rWd2 (R0 : List (List D)) (R1 : List (List D)) (R2 : List (List D)) (R3 : List (List D)) (q : SesD) (v : Bool) (i : Int) (N : X → Prop) (E : Exit → X → Prop) : (ZcR Tryz.prog (hkA band bor [(164, Zfm)] []) Tryz.f120 1 [] [2, 3, 4, 7] [3, 4] (Zfk R0 R1 R2 R3 q) (fun _ => Zfk R0 R1 R2 R3 q) N E (Zef R0 R1 R2 R3 q v i)) = (bif decide (i < @Nat.cast Int _ (List.length q.wt)) then bif decide (0 ≤ i) && decide (i < @Nat.cast Int _ (List.length q.wt)) then bif isJ [IntKind.i64] (List.drop (0) (List.getD q.wt (Int.toNat i) [])) then bif decide (0 ≤ i) && decide (i < @Nat.cast Int _ (List.length q.wt)) then bif isJ [IntKind.i64] (List.drop (1) (List.getD q.wt (Int.toNat i) [])) then bif !thr (List.length R0) (List.length R1) (List.length R2) (List.length R3) (hdJ (List.drop (0) (List.getD q.wt (Int.toNat i) []))) (hdJ (List.drop (1) (List.getD q.wt (Int.toNat i) []))) then Zef R0 R1 R2 R3 q false i = Zef R0 R1 R2 R3 q false i ∧ E Exit.ret (Zef R0 R1 R2 R3 q false i) else Zef R0 R1 R2 R3 q v (IntKind.wrap IntKind.i64 (i + 1)) = Zef R0 R1 R2 R3 q v (IntKind.wrap IntKind.i64 (i + 1)) ∧ N (Zef R0 R1 R2 R3 q v (IntKind.wrap IntKind.i64 (i + 1))) else False else False else False else False else Zef R0 R1 R2 R3 q v i = Zef R0 R1 R2 R3 q v i ∧ E (Exit.exit (2)) (Zef R0 R1 R2 R3 q v i)) := by kernel_rfl
def fWd2 (a b c d : List (List Int)) (q : SesD) (p r w : List (List Int)) : LSum := Zdv [2, 3, 4, 7] [3, 4] (fun i => Zef (mZ a) (mZ b) (mZ c) (mZ d) (q.on p r w) false i) (fun i => Zef (mZ a) (mZ b) (mZ c) (mZ d) (q.on p r w) false i) w.length (fun i => noWr (mZ a) (mZ b) (mZ c) (mZ d) (w.getD i [])) .ret (.exit 2)
theorem kWd2 {a b c d : List (List Int)} {q : SesD} {p r w : List (List Int)} (hw : wid 3 w) (hn : w.length ≤ 9223372036854775807) (Q : Exit → X → Prop) (x : X) (h : fWd2 a b c d q p r w Q x) : XWP Tryz.prog (.loop (Zar Tryz.f120 1)) Q x := by
  refine Zcm (sw := []) (V := Zfk (mZ a) (mZ b) (mZ c) (mZ d) (q.on p r w)) (VE := fun _ => Zfk (mZ a) (mZ b) (mZ c) (mZ d) (q.on p r w)) mixed (ZhN (mZ a) (mZ b) (mZ c) (mZ d) (q.on p r w)) (fun _ => ZhN (mZ a) (mZ b) (mZ c) (mZ d) (q.on p r w)) _ _ _ _ _ _ (fun i hl => ⟨hkA band bor [(164, Zfm)] [], ZaL (.cons Zjq .nil), Zai rfl, fun N E h1 h2 => ?_⟩) ⟨hkA band bor [(164, Zfm)] [], ZaL (.cons Zjq .nil), Zai rfl, fun N E h1 => ?_⟩ Q x h
  · rw [rWd2]
    have wi : IntKind.wrap .i64 ((i : Int) + 1) = ((i + 1 : Nat) : Int) := Zan (n := 1) (by omega)
    have a0 : isJ [IntKind.i64] ((mZ w).getD i []) = true := Zav (j := 0) (n := 1) hw hl (by omega)
    have a1 : isJ [IntKind.i64] (List.drop 1 ((mZ w).getD i [])) = true := Zav (j := 1) (n := 1) hw hl (by omega)
    have a2 : isJ [IntKind.i64] (List.drop 2 ((mZ w).getD i [])) = true := Zav (j := 2) (n := 1) hw hl (by omega)
    have a9 : isJ [IntKind.i64, IntKind.i64, IntKind.i64] ((mZ w).getD i []) = true := Zav (j := 0) (n := 3) hw hl (by omega)
    simp only [SesD.on, Zaf, Int.ofNat_lt, hl, decide_true, cond_true, Int.natCast_nonneg, Bool.and_self, Int.toNat_natCast, a0, a1, a2, a9, List.drop_zero, ZaJ, ZbL, ZaM, ZaO, Zbo, true_and, wi] at h1 h2 ⊢
    unfold noWr thW at h1 h2
    simp only [Zaf] at h1 h2
    generalize thr a.length b.length c.length d.length ((w.getD i []).getD 0 0) ((w.getD i []).getD 1 0) = u at h1 h2 ⊢
    cases u <;> simp only [cond_true, cond_false, Bool.not_true, Bool.not_false, forall_const, reduceCtorEq, false_implies] at h1 h2 ⊢ <;> first | exact h1 | exact h2 | exact h1 trivial | exact h2 trivial
  · rw [rWd2]
    simp only [SesD.on, Zaf, Int.ofNat_lt, Nat.lt_irrefl, decide_false, cond_false, true_and]
    exact h1
theorem ZtC {P : Program} {l : List (FuncId × Spec)} {fn : Func} {k1 k2 : Nat} {s1 s2 : LSum} (hn : (Zbc (Zao fn)).length = 2) (e1 : ZbK (Zar fn 0) = k1) (e2 : ZbK (Zar fn 1) = k2) (hne : Nat.beq k1 k2 = false) (h1 : ∀ Q x, s1 Q x → XWP P (.loop (Zar fn 0)) Q x) (h2 : ∀ Q x, s2 Q x → XWP P (.loop (Zar fn 1)) Q x) : Zaz P (hkl l [(k1, s1), (k2, s2)]) (Zao fn) :=
  Zds 2 hn fun i hi s hs Q x hq => by
    match i, hi with
    | 0, _ =>
      rw [e1] at hs
      have hs' : some s1 = some s := by simpa [Zdw, hkl, hkA, Zbn] using hs
      cases hs'
      exact h1 Q x hq
    | 1, _ =>
      rw [e2] at hs
      have hs' : some s2 = some s := by simpa [Zdw, hkl, hkA, Zbn, hne] using hs
      cases hs'
      exact h2 Q x hq
theorem eWds (a b c d : List (List Int)) (q : SesD) (p r w : List (List Int)) (K : DV → Prop) : (askL Tryz.prog [(164, Zfm), (165, sRT)] [(2, fWd1 a b c d q p r w), (8, fWd2 a b c d q p r w)] Tryz.f120 [.agg (wsL (mZ a) (mZ b) (mZ c) (mZ d)), .agg (sesL 0 (q.on p r w))] K) = (Zcg (mZ a) (mZ b) (mZ c) (mZ d) { id := q.id, lb := q.lb, cl := q.cl, pg := mZ p, st := q.st, pc := q.pc, r0 := q.r0, r1 := q.r1, r2 := q.r2, r3 := q.r3, rd := mZ r, wt := mZ w, at' := q.at', sp := q.sp, tr := q.tr, rs := q.rs, to := q.to } false (0) = Zcg (mZ a) (mZ b) (mZ c) (mZ d) { id := q.id, lb := q.lb, cl := q.cl, pg := mZ p, st := q.st, pc := q.pc, r0 := q.r0, r1 := q.r1, r2 := q.r2, r3 := q.r3, rd := mZ r, wt := mZ w, at' := q.at', sp := q.sp, tr := q.tr, rs := q.rs, to := q.to } false (0) ∧ (∀ (i : Nat), firstAt (fun i => noIn (mZ a) (mZ b) (mZ c) (mZ d) (List.getD p i [])) (List.length p) i → K (DV.c (D.v (Value.bool false)))) ∧ (noneTo (fun i => noIn (mZ a) (mZ b) (mZ c) (mZ d) (List.getD p i [])) (List.length p) → Zef (mZ a) (mZ b) (mZ c) (mZ d) { id := q.id, lb := q.lb, cl := q.cl, pg := mZ p, st := q.st, pc := q.pc, r0 := q.r0, r1 := q.r1, r2 := q.r2, r3 := q.r3, rd := mZ r, wt := mZ w, at' := q.at', sp := q.sp, tr := q.tr, rs := q.rs, to := q.to } false (0) = Zef (mZ a) (mZ b) (mZ c) (mZ d) { id := q.id, lb := q.lb, cl := q.cl, pg := mZ p, st := q.st, pc := q.pc, r0 := q.r0, r1 := q.r1, r2 := q.r2, r3 := q.r3, rd := mZ r, wt := mZ w, at' := q.at', sp := q.sp, tr := q.tr, rs := q.rs, to := q.to } false (0) ∧ (∀ (i : Nat), firstAt (fun i => noWr (mZ a) (mZ b) (mZ c) (mZ d) (List.getD w i [])) (List.length w) i → K (DV.c (D.v (Value.bool false)))) ∧ (noneTo (fun i => noWr (mZ a) (mZ b) (mZ c) (mZ d) (List.getD w i [])) (List.length w) → bif okA (mZ a) (mZ b) (mZ c) (mZ d) && okZ (3) (mZ r) then K (DV.c (D.v (Value.bool (List.all (toZ (mZ r)) (thv (toZ (mZ a)) (toZ (mZ b)) (toZ (mZ c)) (toZ (mZ d))))))) else False))) := by kernel_rfl
end

section
open Go Go.Proofs
def Zj4 (R0 R1 R2 R3 : List (List D)) (s : SesD) : Bool := rmay (toZ s.rd) && (ZbE (toZ s.wt) && (!(toZ s.rd).any (noRd R0 R1 R2 R3) && (!(toZ s.wt).any (noWr R0 R1 R2 R3) && !(toZ s.pg).any (noIn R0 R1 R2 R3))))
def farB (s : SesD) : Bool := upto s.pc 0 s.pg.length && (upto s.at' 0 s.wt.length && (upto s.st 0 6 && upto s.rs 0 5))
def Znl (s : SesD) : Bool := v4 s.r0 s.r1 s.r2 s.r3 && (clk s.sp && (clk s.tr && val8 s.to))
def Zam (R0 R1 R2 R3 : List (List D)) (s : SesD) : Bool := smay s.id s.lb s.cl (toZ s.pg) && (Zj4 R0 R1 R2 R3 s && (farB s && Znl s))
def stL0 (R0 : List (List D)) (R1 : List (List D)) (R2 : List (List D)) (R3 : List (List D)) (s : SesD)  : X := ⟨mkT 97 [(2, .c (.rp 3 0 1 0 0)), (3, .c (.rp 4 0 17 0 0))], [(3, .bx 0 1 [.d (.p 0 (wsL R0 R1 R2 R3) 0)]), (4, .bx 0 17 ((sesL 0 s).map C.d))], [], []⟩
def ZpY (R0 : List (List D)) (R1 : List (List D)) (R2 : List (List D)) (R3 : List (List D)) (s : SesD) : Vw := fun y K => K (stL0 R0 R1 R2 R3 s )
theorem Zow (R0 : List (List D)) (R1 : List (List D)) (R2 : List (List D)) (R3 : List (List D)) (s : SesD) : VwOK (ZpY R0 R1 R2 R3 s) := fun y K h => by
  unfold ZpY at h
  exact ⟨_, h⟩
def stL1 (R0 : List (List D)) (R1 : List (List D)) (R2 : List (List D)) (R3 : List (List D)) (s : SesD) (b1 : Bool) : X := ⟨mkT 97 [(2, .c (.rp 3 0 1 0 0)), (3, .c (.rp 4 0 17 0 0)), (5, ab b1)], [(3, .bx 0 1 [.d (.p 0 (wsL R0 R1 R2 R3) 0)]), (4, .bx 0 17 ((sesL 0 s).map C.d))], [], []⟩
def ZoZ (R0 : List (List D)) (R1 : List (List D)) (R2 : List (List D)) (R3 : List (List D)) (s : SesD) : Vw := fun y K => wB y 5 fun b1 => K (stL1 R0 R1 R2 R3 s b1)
theorem ZoM (R0 : List (List D)) (R1 : List (List D)) (R2 : List (List D)) (R3 : List (List D)) (s : SesD) : VwOK (ZoZ R0 R1 R2 R3 s) := fun y K h => by
  unfold ZoZ at h
  obtain ⟨b1, h⟩ := Zdx h
  exact ⟨_, h⟩
def stL2 (R0 : List (List D)) (R1 : List (List D)) (R2 : List (List D)) (R3 : List (List D)) (s : SesD) (b1 : Bool) (b2 : Bool) : X := ⟨mkT 97 [(2, .c (.rp 3 0 1 0 0)), (3, .c (.rp 4 0 17 0 0)), (5, ab b1), (6, ab b2)], [(3, .bx 0 1 [.d (.p 0 (wsL R0 R1 R2 R3) 0)]), (4, .bx 0 17 ((sesL 0 s).map C.d))], [], []⟩
def Zot (R0 : List (List D)) (R1 : List (List D)) (R2 : List (List D)) (R3 : List (List D)) (s : SesD) : Vw := fun y K => wB y 5 fun b1 => wB y 6 fun b2 => K (stL2 R0 R1 R2 R3 s b1 b2)
theorem Zoy (R0 : List (List D)) (R1 : List (List D)) (R2 : List (List D)) (R3 : List (List D)) (s : SesD) : VwOK (Zot R0 R1 R2 R3 s) := fun y K h => by
  unfold Zot at h
  obtain ⟨b1, h⟩ := Zdx h
  obtain ⟨b2, h⟩ := Zdx h
  exact ⟨_, h⟩
def stL3 (R0 : List (List D)) (R1 : List (List D)) (R2 : List (List D)) (R3 : List (List D)) (s : SesD) (b1 : Bool) (b2 : Bool) (b3 : Bool) : X := ⟨mkT 97 [(2, .c (.rp 3 0 1 0 0)), (3, .c (.rp 4 0 17 0 0)), (5, ab b1), (6, ab b2), (7, ab b3)], [(3, .bx 0 1 [.d (.p 0 (wsL R0 R1 R2 R3) 0)]), (4, .bx 0 17 ((sesL 0 s).map C.d))], [], []⟩
def ZpL (R0 : List (List D)) (R1 : List (List D)) (R2 : List (List D)) (R3 : List (List D)) (s : SesD) : Vw := fun y K => wB y 5 fun b1 => wB y 6 fun b2 => wB y 7 fun b3 => K (stL3 R0 R1 R2 R3 s b1 b2 b3)
theorem Zoo (R0 : List (List D)) (R1 : List (List D)) (R2 : List (List D)) (R3 : List (List D)) (s : SesD) : VwOK (ZpL R0 R1 R2 R3 s) := fun y K h => by
  unfold ZpL at h
  obtain ⟨b1, h⟩ := Zdx h
  obtain ⟨b2, h⟩ := Zdx h
  obtain ⟨b3, h⟩ := Zdx h
  exact ⟨_, h⟩
def stL4 (R0 : List (List D)) (R1 : List (List D)) (R2 : List (List D)) (R3 : List (List D)) (s : SesD) (b : Bool) : X := ⟨mkT 97 [(4, ab b)], [], [], []⟩
def Zog (R0 : List (List D)) (R1 : List (List D)) (R2 : List (List D)) (R3 : List (List D)) (s : SesD) : Vw := fun y K => wB y 4 fun b => K (stL4 R0 R1 R2 R3 s b)
theorem ZpK (R0 : List (List D)) (R1 : List (List D)) (R2 : List (List D)) (R3 : List (List D)) (s : SesD) : VwOK (Zog R0 R1 R2 R3 s) := fun y K h => by
  unfold Zog at h
  obtain ⟨b, h⟩ := Zdx h
  exact ⟨_, h⟩
theorem eL0 (R0 : List (List D)) (R1 : List (List D)) (R2 : List (List D)) (R3 : List (List D)) (s : SesD) (N : X → Prop) : (ZlC Tryz.prog (hk []) (partOf Tryz.f66 0) [2, 3] [3, 4] (ZpY R0 R1 R2 R3 s) N (Zbz 97 [.agg [.p 0 (wsL R0 R1 R2 R3) 0], .agg (sesL 0 s)])) = (stL0 R0 R1 R2 R3 s = stL0 R0 R1 R2 R3 s ∧ N (stL0 R0 R1 R2 R3 s)) := by kernel_rfl
theorem eL1 (R0 : List (List D)) (R1 : List (List D)) (R2 : List (List D)) (R3 : List (List D)) (s : SesD) (N : X → Prop) : (ZlC Tryz.prog (hk [(89, Zl4)]) (partOf Tryz.f66 1) [2, 3, 5] [3, 4] (ZoZ R0 R1 R2 R3 s) N (stL0 R0 R1 R2 R3 s)) = (bif okZ (4) s.pg then stL1 R0 R1 R2 R3 s (smay s.id s.lb s.cl (toZ s.pg)) = stL1 R0 R1 R2 R3 s (smay s.id s.lb s.cl (toZ s.pg)) ∧ N (stL1 R0 R1 R2 R3 s (smay s.id s.lb s.cl (toZ s.pg))) else False) := by kernel_rfl
theorem eL2 (R0 : List (List D)) (R1 : List (List D)) (R2 : List (List D)) (R3 : List (List D)) (s : SesD) (b1 : Bool) (N : X → Prop) : (ZlC Tryz.prog (hk [(105, sRM), (106, sWMy), (107, Zpk), (109, ZpM), (111, Zod)]) (partOf Tryz.f66 2) [2, 3, 5, 6] [3, 4] (Zot R0 R1 R2 R3 s) N (stL1 R0 R1 R2 R3 s b1)) = (bif okZ (3) s.rd then bif rmay (toZ s.rd) then bif okZ (3) s.wt then bif ZbE (toZ s.wt) then bif okZ (3) s.rd then bif !List.any (toZ s.rd) (noRd R0 R1 R2 R3) then bif okZ (3) s.wt then bif !List.any (toZ s.wt) (noWr R0 R1 R2 R3) then bif okZ (4) s.pg then (stL2 R0 R1 R2 R3 s b1 !List.any (toZ s.pg) (noIn R0 R1 R2 R3)) = stL2 R0 R1 R2 R3 s b1 !List.any (toZ s.pg) (noIn R0 R1 R2 R3) ∧ N (stL2 R0 R1 R2 R3 s b1 !List.any (toZ s.pg) (noIn R0 R1 R2 R3)) else False else stL2 R0 R1 R2 R3 s b1 false = stL2 R0 R1 R2 R3 s b1 false ∧ N (stL2 R0 R1 R2 R3 s b1 false) else False else stL2 R0 R1 R2 R3 s b1 false = stL2 R0 R1 R2 R3 s b1 false ∧ N (stL2 R0 R1 R2 R3 s b1 false) else False else stL2 R0 R1 R2 R3 s b1 false = stL2 R0 R1 R2 R3 s b1 false ∧ N (stL2 R0 R1 R2 R3 s b1 false) else False else stL2 R0 R1 R2 R3 s b1 false = stL2 R0 R1 R2 R3 s b1 false ∧ N (stL2 R0 R1 R2 R3 s b1 false) else False) := by kernel_rfl
theorem eL3 (R0 : List (List D)) (R1 : List (List D)) (R2 : List (List D)) (R3 : List (List D)) (s : SesD) (b1 : Bool) (b2 : Bool) (N : X → Prop) : (ZlC Tryz.prog (hk [(113, sIn)]) (partOf Tryz.f66 3) [2, 3, 5, 6, 7] [3, 4] (ZpL R0 R1 R2 R3 s) N (stL2 R0 R1 R2 R3 s b1 b2)) = (bif upto s.pc (0) (@Nat.cast Int _ (List.length s.pg)) then bif upto s.at' (0) (@Nat.cast Int _ (List.length s.wt)) then bif upto s.st (0) (6) then stL3 R0 R1 R2 R3 s b1 b2 (upto s.rs (0) (5)) = stL3 R0 R1 R2 R3 s b1 b2 (upto s.rs (0) (5)) ∧ N (stL3 R0 R1 R2 R3 s b1 b2 (upto s.rs (0) (5))) else stL3 R0 R1 R2 R3 s b1 b2 false = stL3 R0 R1 R2 R3 s b1 b2 false ∧ N (stL3 R0 R1 R2 R3 s b1 b2 false) else stL3 R0 R1 R2 R3 s b1 b2 false = stL3 R0 R1 R2 R3 s b1 b2 false ∧ N (stL3 R0 R1 R2 R3 s b1 b2 false) else stL3 R0 R1 R2 R3 s b1 b2 false = stL3 R0 R1 R2 R3 s b1 b2 false ∧ N (stL3 R0 R1 R2 R3 s b1 b2 false)) := by kernel_rfl
theorem eL4 (R0 : List (List D)) (R1 : List (List D)) (R2 : List (List D)) (R3 : List (List D)) (s : SesD) (b1 : Bool) (b2 : Bool) (b3 : Bool) (N : X → Prop) : (ZlC Tryz.prog (hk [(114, sRgM), (102, sB clk), (115, sB val8)]) (partOf Tryz.f66 4) [4] [] (Zog R0 R1 R2 R3 s) N (stL3 R0 R1 R2 R3 s b1 b2 b3)) = (bif b1 then bif b2 then bif b3 then bif v4 s.r0 s.r1 s.r2 s.r3 then bif clk s.sp then bif clk s.tr then stL4 R0 R1 R2 R3 s (val8 s.to) = stL4 R0 R1 R2 R3 s (val8 s.to) ∧ N (stL4 R0 R1 R2 R3 s (val8 s.to)) else stL4 R0 R1 R2 R3 s false = stL4 R0 R1 R2 R3 s false ∧ N (stL4 R0 R1 R2 R3 s false) else stL4 R0 R1 R2 R3 s false = stL4 R0 R1 R2 R3 s false ∧ N (stL4 R0 R1 R2 R3 s false) else stL4 R0 R1 R2 R3 s false = stL4 R0 R1 R2 R3 s false ∧ N (stL4 R0 R1 R2 R3 s false) else stL4 R0 R1 R2 R3 s false = stL4 R0 R1 R2 R3 s false ∧ N (stL4 R0 R1 R2 R3 s false) else stL4 R0 R1 R2 R3 s false = stL4 R0 R1 R2 R3 s false ∧ N (stL4 R0 R1 R2 R3 s false) else stL4 R0 R1 R2 R3 s false = stL4 R0 R1 R2 R3 s false ∧ N (stL4 R0 R1 R2 R3 s false)) := by kernel_rfl
theorem eL5 (R0 : List (List D)) (R1 : List (List D)) (R2 : List (List D)) (R3 : List (List D)) (s : SesD) (b : Bool) (K : DV → Prop) : (evp Tryz.prog (hk []) 200 (partOf Tryz.f66 5) (fun e y => match e with | .normal => finX Tryz.prog Tryz.f66 K .normal y | e => finX Tryz.prog Tryz.f66 K e y) (stL4 R0 R1 R2 R3 s b)) = (K (DV.c (D.v (Value.bool b)))) := by kernel_rfl
theorem Zvj : seqs (Zao Tryz.f66) = [partOf Tryz.f66 0, partOf Tryz.f66 1, partOf Tryz.f66 2, partOf Tryz.f66 3, partOf Tryz.f66 4, partOf Tryz.f66 5] := by kernel_rfl
theorem cLS (R0 R1 R2 R3 : List (List D)) (s : SesD) (hs : ZaD s = true) : CT Tryz.prog 66 [.agg [.p 0 (wsL R0 R1 R2 R3) 0], .agg (sesL 0 s)] (B (Zam R0 R1 R2 R3 s)) := by
  unfold ZaD at hs
  simp only [Bool.and_eq_true] at hs
  obtain ⟨h1, h2, h3⟩ := hs
  refine ZmH Tryz.func66 (c := Zao Tryz.f66) rfl (Nat.le_of_ble_eq_true rfl) rfl (Zrx _ _ _ ?_)
  rw [Zvj]
  refine Zgm (ts := [2, 3]) (ks := [3, 4]) (Zmg .nil) mixed ZbW (by simp) (Zow R0 R1 R2 R3 s) ?_
  show ZlC Tryz.prog _ _ _ _ _ _ (Zbz 97 _)
  rw [eL0]
  refine ⟨rfl, Zgm (ts := [2, 3, 5]) (ks := [3, 4]) (Zmg (.cons ZwE .nil)) mixed ZbW (by simp) (ZoM R0 R1 R2 R3 s) ?_⟩
  rw [eL1]
  simp only [h1, cond_true]
  refine ⟨trivial, ?_⟩
  generalize hb1 : smay s.id s.lb s.cl (toZ s.pg) = b1
  refine Zgm (ts := [2, 3, 5, 6]) (ks := [3, 4]) (Zmg (.cons oRM (.cons oWMy (.cons Zua (.cons Zt3 (.cons Zuk .nil)))))) mixed ZbW (by simp) (Zoy R0 R1 R2 R3 s) ?_
  suffices key2 : XS Tryz.prog [partOf Tryz.f66 3, partOf Tryz.f66 4, partOf Tryz.f66 5] (finX Tryz.prog Tryz.f66 fun r => r = B (Zam R0 R1 R2 R3 s)) (stL2 R0 R1 R2 R3 s b1 (Zj4 R0 R1 R2 R3 s)) by
    rw [eL2]
    simp only [h1, h2, h3, cond_true]
    unfold Zj4 at key2
    cases q1 : rmay (toZ s.rd) <;> cases q2 : ZbE (toZ s.wt) <;> cases q3 : !(toZ s.rd).any (noRd R0 R1 R2 R3) <;> cases q4 : !(toZ s.wt).any (noWr R0 R1 R2 R3) <;> cases q5 : !(toZ s.pg).any (noIn R0 R1 R2 R3) <;>
      simp only [q1, q2, q3, q4, q5, cond_true, cond_false, Bool.and_true, Bool.and_false, Bool.true_and, Bool.false_and, true_and] at key2 ⊢ <;> exact key2
  generalize hb2 : Zj4 R0 R1 R2 R3 s = b2
  refine Zgm (ts := [2, 3, 5, 6, 7]) (ks := [3, 4]) (Zmg (.cons oMIn .nil)) mixed ZbW (by simp) (Zoo R0 R1 R2 R3 s) ?_
  suffices key3 : XS Tryz.prog [partOf Tryz.f66 4, partOf Tryz.f66 5] (finX Tryz.prog Tryz.f66 fun r => r = B (Zam R0 R1 R2 R3 s)) (stL3 R0 R1 R2 R3 s b1 b2 (farB s)) by
    rw [eL3]
    unfold farB at key3
    cases q1 : upto s.pc 0 s.pg.length <;> cases q2 : upto s.at' 0 s.wt.length <;> cases q3 : upto s.st 0 6 <;> cases q4 : upto s.rs 0 5 <;>
      simp only [q1, q2, q3, q4, cond_true, cond_false, Bool.and_true, Bool.and_false, Bool.true_and, Bool.false_and, true_and] at key3 ⊢ <;> exact key3
  generalize hb3 : farB s = b3
  refine Zgm (ts := [4]) (ks := []) (Zmg (.cons oRgM (.cons oClk (.cons oVal .nil)))) mixed ZbW (by simp) (ZpK R0 R1 R2 R3 s) ?_
  suffices key4 : XS Tryz.prog [partOf Tryz.f66 5] (finX Tryz.prog Tryz.f66 fun r => r = B (Zam R0 R1 R2 R3 s)) (stL4 R0 R1 R2 R3 s (b1 && (b2 && (b3 && Znl s)))) by
    rw [eL4]
    unfold Znl at key4
    cases b1 <;> cases b2 <;> cases b3 <;> cases q1 : v4 s.r0 s.r1 s.r2 s.r3 <;> cases q2 : clk s.sp <;> cases q3 : clk s.tr <;> cases q4 : val8 s.to <;>
      simp only [q1, q2, q3, q4, cond_true, cond_false, Bool.and_true, Bool.and_false, Bool.true_and, Bool.false_and, true_and] at key4 ⊢ <;> exact key4
  refine ZsP (Zmg .nil) mixed ZbW ?_
  have h5 := eL5 R0 R1 R2 R3 s (b1 && (b2 && (b3 && Znl s))) (fun r => r = B (Zam R0 R1 R2 R3 s))
  refine h5.mpr ?_
  rw [← hb1, ← hb2, ← hb3]; rfl
end

section
open Go Go.Proofs
def sLS : Spec := fun ds Q => match ds with
  | [.agg [p], e] => Zne p fun R0 R1 R2 R3 => sesA e fun s => cond (ZaD s) (Q (B (Zam R0 R1 R2 R3 s))) False
  | _ => False
theorem oLS : Zad Tryz.prog 66 sLS := o_al Tryz.func66 (by kernel_rfl) rfl fun ds Q h => by
  unfold sLS at h; split at h
  · obtain ⟨R0, R1, R2, R3, h, r1, e1⟩ := Zgl h
    obtain ⟨s, h, r2⟩ := ZbQ h
    obtain ⟨h1, h2⟩ := Zag h
    exact ⟨_, _, .cons (.agg (.cons r1 .nil) (by simp [e1]) rfl) (.cons r2 .nil), cLS R0 R1 R2 R3 s h1, rfl, rfl, h2⟩
  · exact h.elim
theorem eA1S (R0 R1 R2 R3 : List (List D)) (s : SesD) (K : DV → Prop) : (ask Tryz.prog [(66, sLS)] Tryz.f104 [.agg (sesL 0 s), .c (.p 0 [.f 66 [.f AG [] [.p 0 (wsL R0 R1 R2 R3) 0]] []] 0)] K) = (bif ZaD s then K (DV.c (D.v (Value.bool !Zam R0 R1 R2 R3 s))) else False) := by kernel_rfl
def sA1S : Spec := fun ds Q => match ds with
  | [e, .c (.p _ [c] 0)] => sesA e fun s => Zgy 66 c fun R0 R1 R2 R3 => cond (ZaD s) (Q (B (!Zam R0 R1 R2 R3 s))) False
  | _ => False
theorem oA1S : Zad Tryz.prog 104 sA1S := o_al Tryz.func104 (by kernel_rfl) rfl fun ds Q h => by
  unfold sA1S at h; split at h
  · obtain ⟨s, h, r2⟩ := ZbQ h
    obtain ⟨R0, R1, R2, R3, h, r1, e1⟩ := Zcv (by decide) h
    obtain ⟨h1, h2⟩ := Zag h
    exact ⟨_, _, .cons r2 (.cons (.c (RD.cells (t' := 0) (.cons r1 .nil)) rfl rfl) .nil), Zak (.cons oLS .nil) mixed Tryz.func104 rfl rfl rfl (by rw [eA1S, h1]; rfl), rfl, rfl, h2⟩
  · exact h.elim
def iIxS : Inl := inlB Tryz.prog band bor [(104, sA1S)] [] [] Tryz.f152
def iCoS : Inl := inlB Tryz.prog band bor [] [] [(152, iIxS)] Tryz.f103
theorem Zth : Zbl Tryz.prog 152 iIxS := ZoI (.cons oA1S .nil) .nil .nil mixed Tryz.func152 rfl (Zat Tryz.func152 (by kernel_rfl) rfl)
theorem Zgi : Zbl Tryz.prog 103 iCoS := ZoI .nil .nil (.cons Zth .nil) mixed Tryz.func103 rfl (Zat Tryz.func103 (by kernel_rfl) rfl)
theorem bifN (p q : Bool) (x : DV) : (bif !p then (DV.c (.v (.bool false)) = x) else (DV.c (.v (.bool q)) = x)) = (DV.c (.v (.bool (p && q))) = x) := by cases p <;> rfl
theorem Zt2 (R0 R1 R2 R3 : List (List D)) (K : DV → Prop) : (askX Tryz.prog band bor [] [] [(103, iCoS)] Tryz.f65 [.c (.s 0 17 ([].map (sesL 0)) []), .c (.f 66 [.f AG [] [.p 0 (wsL R0 R1 R2 R3) 0]] [])] K) = (K (DV.c (D.v (Value.bool true)))) := by kernel_rfl
theorem Zus (R0 R1 R2 R3 : List (List D)) (s0 : SesD) (K : DV → Prop) : (askX Tryz.prog band bor [] [] [(103, iCoS)] Tryz.f65 [.c (.s 0 17 ([s0].map (sesL 0)) []), .c (.f 66 [.f AG [] [.p 0 (wsL R0 R1 R2 R3) 0]] [])] K) = (bif ZaD s0 then bif !Zam R0 R1 R2 R3 s0 then K (DV.c (D.v (Value.bool false))) else K (DV.c (D.v (Value.bool true))) else False) := by kernel_rfl
theorem ZuC (R0 R1 R2 R3 : List (List D)) (s0 s1 : SesD) (K : DV → Prop) : (askX Tryz.prog band bor [] [] [(103, iCoS)] Tryz.f65 [.c (.s 0 17 ([s0, s1].map (sesL 0)) []), .c (.f 66 [.f AG [] [.p 0 (wsL R0 R1 R2 R3) 0]] [])] K) = (bif ZaD s0 then bif !Zam R0 R1 R2 R3 s0 then K (DV.c (D.v (Value.bool false))) else bif ZaD s1 then bif !Zam R0 R1 R2 R3 s1 then K (DV.c (D.v (Value.bool false))) else K (DV.c (D.v (Value.bool true))) else False else False) := by kernel_rfl
theorem ZtZ (R0 R1 R2 R3 : List (List D)) (s0 s1 s2 : SesD) (K : DV → Prop) : (askX Tryz.prog band bor [] [] [(103, iCoS)] Tryz.f65 [.c (.s 0 17 ([s0, s1, s2].map (sesL 0)) []), .c (.f 66 [.f AG [] [.p 0 (wsL R0 R1 R2 R3) 0]] [])] K) = (bif ZaD s0 then bif !Zam R0 R1 R2 R3 s0 then K (DV.c (D.v (Value.bool false))) else bif ZaD s1 then bif !Zam R0 R1 R2 R3 s1 then K (DV.c (D.v (Value.bool false))) else bif ZaD s2 then bif !Zam R0 R1 R2 R3 s2 then K (DV.c (D.v (Value.bool false))) else K (DV.c (D.v (Value.bool true))) else False else False else False) := by kernel_rfl
theorem Zuc (R0 R1 R2 R3 : List (List D)) (s0 s1 s2 s3 : SesD) (K : DV → Prop) : (askX Tryz.prog band bor [] [] [(103, iCoS)] Tryz.f65 [.c (.s 0 17 ([s0, s1, s2, s3].map (sesL 0)) []), .c (.f 66 [.f AG [] [.p 0 (wsL R0 R1 R2 R3) 0]] [])] K) = (bif ZaD s0 then bif !Zam R0 R1 R2 R3 s0 then K (DV.c (D.v (Value.bool false))) else bif ZaD s1 then bif !Zam R0 R1 R2 R3 s1 then K (DV.c (D.v (Value.bool false))) else bif ZaD s2 then bif !Zam R0 R1 R2 R3 s2 then K (DV.c (D.v (Value.bool false))) else bif ZaD s3 then bif !Zam R0 R1 R2 R3 s3 then K (DV.c (D.v (Value.bool false))) else K (DV.c (D.v (Value.bool true))) else False else False else False else False) := by kernel_rfl
def okSS (ss : List SesD) : Bool := ss.all ZaD
theorem Zwl (R0 R1 R2 R3 : List (List D)) : ∀ (ss : List SesD), ss.length ≤ 4 → okSS ss = true → CT Tryz.prog 65 [.c (.s 0 17 (ss.map (sesL 0)) []), .c (.f 66 [.f AG [] [.p 0 (wsL R0 R1 R2 R3) 0]] [])] (B (ss.all (Zam R0 R1 R2 R3))) := by
  intro ss hl hok
  unfold okSS at hok
  rcases ss with _ | ⟨s0, _ | ⟨s1, _ | ⟨s2, _ | ⟨s3, _ | ⟨s4, l⟩⟩⟩⟩⟩
  · refine ct_x .nil .nil (.cons Zgi .nil) mixed Tryz.func65 rfl rfl rfl ?_
    rw [Zt2]
    refine ⟨?_⟩
    simp only [List.all_cons, List.all_nil, Bool.and_eq_true, Bool.and_true] at hok
    simp only [hok, cond_true, List.all_cons, List.all_nil, bifN, Bool.and_true, Bool.and_assoc]
  · refine ct_x .nil .nil (.cons Zgi .nil) mixed Tryz.func65 rfl rfl rfl ?_
    rw [Zus]
    refine ⟨?_⟩
    simp only [List.all_cons, List.all_nil, Bool.and_eq_true, Bool.and_true] at hok
    simp only [hok, cond_true, List.all_cons, List.all_nil, bifN, Bool.and_true, Bool.and_assoc]
  · refine ct_x .nil .nil (.cons Zgi .nil) mixed Tryz.func65 rfl rfl rfl ?_
    rw [ZuC]
    refine ⟨?_⟩
    simp only [List.all_cons, List.all_nil, Bool.and_eq_true, Bool.and_true] at hok
    simp only [hok, cond_true, List.all_cons, List.all_nil, bifN, Bool.and_true, Bool.and_assoc]
  · refine ct_x .nil .nil (.cons Zgi .nil) mixed Tryz.func65 rfl rfl rfl ?_
    rw [ZtZ]
    refine ⟨?_⟩
    simp only [List.all_cons, List.all_nil, Bool.and_eq_true, Bool.and_true] at hok
    simp only [hok, cond_true, List.all_cons, List.all_nil, bifN, Bool.and_true, Bool.and_assoc]
  · refine ct_x .nil .nil (.cons Zgi .nil) mixed Tryz.func65 rfl rfl rfl ?_
    rw [Zuc]
    refine ⟨?_⟩
    simp only [List.all_cons, List.all_nil, Bool.and_eq_true, Bool.and_true] at hok
    simp only [hok, cond_true, List.all_cons, List.all_nil, bifN, Bool.and_true, Bool.and_assoc]
  · simp at hl
def Zlq : Spec := fun ds Q => match ds with
  | [.c d, .c e] => cond d.isOwn False (ZmJ d fun ss => Zgy 66 e fun R0 R1 R2 R3 => cond (Nat.ble ss.length 4 && okSS ss) (Q (B (ss.all (Zam R0 R1 R2 R3)))) False)
  | _ => False
theorem ZoO : Zad Tryz.prog 65 Zlq := o_al Tryz.func65 (by kernel_rfl) rfl fun ds Q h => by
  unfold Zlq at h; split at h
  · rename_i d e
    cases hd : d.isOwn with
    | true => rw [hd] at h; exact h.elim
    | false =>
      rw [hd] at h
      obtain ⟨ss, h, r1⟩ := Zep h
      obtain ⟨R0, R1, R2, R3, h, r2, e2⟩ := Zcv (by decide) h
      obtain ⟨h1, h2⟩ := Zag h
      rw [Bool.and_eq_true] at h1
      exact ⟨_, _, .cons (.c r1 hd rfl) (.cons (.c r2 e2 rfl) .nil), Zwl R0 R1 R2 R3 ss (Nat.le_of_ble_eq_true h1.1) h1.2, rfl, rfl, h2⟩
  · exact h.elim
def ZdJ : List SesD → Bool
  | a :: b :: l => !decide (a.id ≥ b.id) && ZdJ (b :: l)
  | _ => true
def clkB (h : Mh) : Bool := ck4 h.c0 h.c1 h.c2 h.c3 && clk h.ce
def mmay (h : Mh) (ss : List SesD) : Bool := amay (toZ h.w0) (toZ h.w1) (toZ h.w2) (toZ h.w3) && (clkB h && (!decide (mx4 h.c0 h.c1 h.c2 h.c3 > h.ce) && (!decide ((ss.length : Int) > 4) && (!decide ((h.tr.length : Int) > 512) && (ZdJ ss && (ss.all (Zam h.w0 h.w1 h.w2 h.w3) && !(toZ h.tr).any noEv))))))
def okM (h : Mh) (ss : List SesD) : Bool := okA h.w0 h.w1 h.w2 h.w3 && (okZ 4 h.tr && okSS ss)
theorem eMM0 (h : Mh) (K : DV → Prop) : (ask Tryz.prog [(60, ZcP), (61, sCkM), (62, sMx), (65, Zlq), (67, Zgc)] Tryz.f26 [.agg (macL 0 h [])] K) = (bif okA h.w0 h.w1 h.w2 h.w3 then bif !amay (toZ h.w0) (toZ h.w1) (toZ h.w2) (toZ h.w3) then K (DV.c (D.v (Value.bool false))) else bif !(ck4 h.c0 h.c1 h.c2 h.c3 && clk h.ce) then K (DV.c (D.v (Value.bool false))) else bif decide (mx4 h.c0 h.c1 h.c2 h.c3 > h.ce) then K (DV.c (D.v (Value.bool false))) else bif decide (@Nat.cast Int _ (List.length h.tr) > 512) then K (DV.c (D.v (Value.bool false))) else bif okZ (4) h.tr then K (DV.c (D.v (Value.bool !List.any (toZ h.tr) noEv))) else False else False) := by kernel_rfl
theorem eMM1 (h : Mh) (s0 : SesD) (K : DV → Prop) : (ask Tryz.prog [(60, ZcP), (61, sCkM), (62, sMx), (65, Zlq), (67, Zgc)] Tryz.f26 [.agg (macL 0 h [s0])] K) = (bif okA h.w0 h.w1 h.w2 h.w3 then bif !amay (toZ h.w0) (toZ h.w1) (toZ h.w2) (toZ h.w3) then K (DV.c (D.v (Value.bool false))) else bif !(ck4 h.c0 h.c1 h.c2 h.c3 && clk h.ce) then K (DV.c (D.v (Value.bool false))) else bif decide (mx4 h.c0 h.c1 h.c2 h.c3 > h.ce) then K (DV.c (D.v (Value.bool false))) else bif decide (@Nat.cast Int _ (List.length h.tr) > 512) then K (DV.c (D.v (Value.bool false))) else bif Nat.ble (1) (OfNat.ofNat (4)) && okSS [s0] then bif List.all [s0] (Zam h.w0 h.w1 h.w2 h.w3) then bif okZ (4) h.tr then K (DV.c (D.v (Value.bool !List.any (toZ h.tr) noEv))) else False else K (DV.c (D.v (Value.bool false))) else False else False) := by kernel_rfl
theorem eMM2 (h : Mh) (s0 s1 : SesD) (K : DV → Prop) : (ask Tryz.prog [(60, ZcP), (61, sCkM), (62, sMx), (65, Zlq), (67, Zgc)] Tryz.f26 [.agg (macL 0 h [s0, s1])] K) = (bif okA h.w0 h.w1 h.w2 h.w3 then bif !amay (toZ h.w0) (toZ h.w1) (toZ h.w2) (toZ h.w3) then K (DV.c (D.v (Value.bool false))) else bif !(ck4 h.c0 h.c1 h.c2 h.c3 && clk h.ce) then K (DV.c (D.v (Value.bool false))) else bif decide (mx4 h.c0 h.c1 h.c2 h.c3 > h.ce) then K (DV.c (D.v (Value.bool false))) else bif decide (@Nat.cast Int _ (List.length h.tr) > 512) then K (DV.c (D.v (Value.bool false))) else bif decide (s0.id ≥ s1.id) then K (DV.c (D.v (Value.bool false))) else bif Nat.ble (2) (OfNat.ofNat (4)) && okSS [s0, s1] then bif List.all [s0, s1] (Zam h.w0 h.w1 h.w2 h.w3) then bif okZ (4) h.tr then K (DV.c (D.v (Value.bool !List.any (toZ h.tr) noEv))) else False else K (DV.c (D.v (Value.bool false))) else False else False) := by kernel_rfl
theorem eMM3 (h : Mh) (s0 s1 s2 : SesD) (K : DV → Prop) : (ask Tryz.prog [(60, ZcP), (61, sCkM), (62, sMx), (65, Zlq), (67, Zgc)] Tryz.f26 [.agg (macL 0 h [s0, s1, s2])] K) = (bif okA h.w0 h.w1 h.w2 h.w3 then bif !amay (toZ h.w0) (toZ h.w1) (toZ h.w2) (toZ h.w3) then K (DV.c (D.v (Value.bool false))) else bif !(ck4 h.c0 h.c1 h.c2 h.c3 && clk h.ce) then K (DV.c (D.v (Value.bool false))) else bif decide (mx4 h.c0 h.c1 h.c2 h.c3 > h.ce) then K (DV.c (D.v (Value.bool false))) else bif decide (@Nat.cast Int _ (List.length h.tr) > 512) then K (DV.c (D.v (Value.bool false))) else bif decide (s0.id ≥ s1.id) then K (DV.c (D.v (Value.bool false))) else bif decide (s1.id ≥ s2.id) then K (DV.c (D.v (Value.bool false))) else bif Nat.ble (3) (OfNat.ofNat (4)) && okSS [s0, s1, s2] then bif List.all [s0, s1, s2] (Zam h.w0 h.w1 h.w2 h.w3) then bif okZ (4) h.tr then K (DV.c (D.v (Value.bool !List.any (toZ h.tr) noEv))) else False else K (DV.c (D.v (Value.bool false))) else False else False) := by kernel_rfl
theorem eMM4 (h : Mh) (s0 s1 s2 s3 : SesD) (K : DV → Prop) : (ask Tryz.prog [(60, ZcP), (61, sCkM), (62, sMx), (65, Zlq), (67, Zgc)] Tryz.f26 [.agg (macL 0 h [s0, s1, s2, s3])] K) = (bif okA h.w0 h.w1 h.w2 h.w3 then bif !amay (toZ h.w0) (toZ h.w1) (toZ h.w2) (toZ h.w3) then K (DV.c (D.v (Value.bool false))) else bif !(ck4 h.c0 h.c1 h.c2 h.c3 && clk h.ce) then K (DV.c (D.v (Value.bool false))) else bif decide (mx4 h.c0 h.c1 h.c2 h.c3 > h.ce) then K (DV.c (D.v (Value.bool false))) else bif decide (@Nat.cast Int _ (List.length h.tr) > 512) then K (DV.c (D.v (Value.bool false))) else bif decide (s0.id ≥ s1.id) then K (DV.c (D.v (Value.bool false))) else bif decide (s1.id ≥ s2.id) then K (DV.c (D.v (Value.bool false))) else bif decide (s2.id ≥ s3.id) then K (DV.c (D.v (Value.bool false))) else bif Nat.ble (4) (OfNat.ofNat (4)) && okSS [s0, s1, s2, s3] then bif List.all [s0, s1, s2, s3] (Zam h.w0 h.w1 h.w2 h.w3) then bif okZ (4) h.tr then K (DV.c (D.v (Value.bool !List.any (toZ h.tr) noEv))) else False else K (DV.c (D.v (Value.bool false))) else False else False) := by kernel_rfl
theorem eMMB (h : Mh) (R sp : List (List D)) (K : DV → Prop) : (askL Tryz.prog [(60, ZcP), (61, sCkM), (62, sMx)] [(4, fun _ _ => False)] Tryz.f26 [.agg [.s 0 3 h.w0 [], .s 0 3 h.w1 [], .s 0 3 h.w2 [], .s 0 3 h.w3 [], vN h.c0, vN h.c1, vN h.c2, vN h.c3, vN h.ce, .s 0 17 R sp, .s 0 4 h.tr []]] K) = (bif okA h.w0 h.w1 h.w2 h.w3 then bif !amay (toZ h.w0) (toZ h.w1) (toZ h.w2) (toZ h.w3) then K (DV.c (D.v (Value.bool false))) else bif !(ck4 h.c0 h.c1 h.c2 h.c3 && clk h.ce) then K (DV.c (D.v (Value.bool false))) else bif decide (mx4 h.c0 h.c1 h.c2 h.c3 > h.ce) then K (DV.c (D.v (Value.bool false))) else bif decide (@Nat.cast Int _ (List.length R) > 4) then K (DV.c (D.v (Value.bool false))) else bif decide (@Nat.cast Int _ (List.length h.tr) > 512) then K (DV.c (D.v (Value.bool false))) else False else False) := by kernel_rfl
theorem bifP (p q : Bool) (x : DV) : (bif p then (DV.c (.v (.bool false)) = x) else (DV.c (.v (.bool q)) = x)) = (DV.c (.v (.bool (!p && q))) = x) := by cases p <;> rfl
theorem Zm0 {P : Program} {l : List (FuncId × Spec)} {k : Nat} {c : Code} : Zaz P (hkl l [(k, fun _ _ => False)]) c := fun b hb s hs Q x hq => by
  have hs' : Zdw [(k, fun _ _ => False)] (ZbK b) = some s := hs
  unfold Zdw at hs'
  split at hs'
  · cases hs'; exact hq.elim
  · cases hs'
theorem ZbP {h : Mh} {ss : List SesD} (hm : okM h ss = true) : okA h.w0 h.w1 h.w2 h.w3 = true ∧ okZ 4 h.tr = true ∧ okSS ss = true := by
  unfold okM at hm; simpa [Bool.and_eq_true] using hm
theorem ZwZ (h : Mh) (ss : List SesD) (hok : okM h ss = true) : CT Tryz.prog 26 [.agg (macL 0 h ss)] (B (mmay h ss)) := by
  obtain ⟨h1, h2, h3⟩ := ZbP hok
  rcases ss with _ | ⟨s0, _ | ⟨s1, _ | ⟨s2, _ | ⟨s3, _ | ⟨s4, l⟩⟩⟩⟩⟩
  · refine ct_s (.cons ZnI (.cons oCkM (.cons oMx (.cons ZoO (.cons Zkh .nil))))) mixed Tryz.func26 rfl rfl rfl ?_
    rw [eMM0]
    refine ⟨?_⟩
    simp only [h1, h2, h3, cond_true, bifN, bifP, bifK, Bool.and_true, (by decide : Nat.ble 0 4 = true), Bool.true_and]
    unfold mmay clkB
    simp [ZdJ, Bool.and_assoc]
  · refine ct_s (.cons ZnI (.cons oCkM (.cons oMx (.cons ZoO (.cons Zkh .nil))))) mixed Tryz.func26 rfl rfl rfl ?_
    rw [eMM1]
    refine ⟨?_⟩
    simp only [h1, h2, h3, cond_true, bifN, bifP, bifK, Bool.and_true, (by decide : Nat.ble 1 4 = true), Bool.true_and]
    unfold mmay clkB
    simp [ZdJ, Bool.and_assoc]
  · refine ct_s (.cons ZnI (.cons oCkM (.cons oMx (.cons ZoO (.cons Zkh .nil))))) mixed Tryz.func26 rfl rfl rfl ?_
    rw [eMM2]
    refine ⟨?_⟩
    simp only [h1, h2, h3, cond_true, bifN, bifP, bifK, Bool.and_true, (by decide : Nat.ble 2 4 = true), Bool.true_and]
    unfold mmay clkB
    simp [ZdJ, Bool.and_assoc]
  · refine ct_s (.cons ZnI (.cons oCkM (.cons oMx (.cons ZoO (.cons Zkh .nil))))) mixed Tryz.func26 rfl rfl rfl ?_
    rw [eMM3]
    refine ⟨?_⟩
    simp only [h1, h2, h3, cond_true, bifN, bifP, bifK, Bool.and_true, (by decide : Nat.ble 3 4 = true), Bool.true_and]
    unfold mmay clkB
    simp [ZdJ, Bool.and_assoc]
  · refine ct_s (.cons ZnI (.cons oCkM (.cons oMx (.cons ZoO (.cons Zkh .nil))))) mixed Tryz.func26 rfl rfl rfl ?_
    rw [eMM4]
    refine ⟨?_⟩
    simp only [h1, h2, h3, cond_true, bifN, bifP, bifK, Bool.and_true, (by decide : Nat.ble 4 4 = true), Bool.true_and]
    unfold mmay clkB
    simp [ZdJ, Bool.and_assoc]
  · refine ZjU (l := [(60, ZcP), (61, sCkM), (62, sMx)]) (m := [(4, fun _ _ => False)]) (.cons ZnI (.cons oCkM (.cons oMx .nil))) mixed Zm0 Tryz.func26 rfl rfl rfl ?_
    unfold macL
    rw [eMMB]
    refine ⟨?_⟩
    have h5 : decide (((List.map (sesL 0) (s0 :: s1 :: s2 :: s3 :: s4 :: l)).length : Int) > 4) = true := by simp; omega
    have h6 : decide (((s0 :: s1 :: s2 :: s3 :: s4 :: l).length : Int) > 4) = true := by simp; omega
    unfold mmay clkB
    simp only [h1, h5, h6, cond_true, bifN, bifP, Bool.not_true, Bool.false_and, Bool.not_not]
theorem eThe (h : Mh) (ss : List SesD) (at' : Int) (K : DV → Prop) : (ask Tryz.prog [(26, sAtD [.agg (macL 0 h ss)] (B (mmay h ss)))] Tryz.f52 [.c (.p 0 (macL 0 h ss) 0), I at'] K) = ([DV.agg (macL (0) h ss)] = [DV.agg (macL (0) h ss)] ∧ bif mmay h ss then bif decide (at' ≥ 0) then K (DV.c (D.v (Value.bool (decide (at' < @Nat.cast Int _ (List.length (List.map (sesL (0)) ss))))))) else K (DV.c (D.v (Value.bool false))) else K (DV.c (D.v (Value.bool false)))) := by kernel_rfl
def Zcq (h : Mh) (ss : List SesD) (i : Int) : Bool := mmay h ss && (decide (i ≥ 0) && decide (i < ss.length))
theorem Zwh : Goes Tryz.prog 26 := Zat Tryz.func26 (by kernel_rfl) rfl
theorem cThe (h : Mh) (ss : List SesD) (i : Int) (hok : okM h ss = true) : CT Tryz.prog 52 [.c (.p 0 (macL 0 h ss) 0), I i] (B (Zcq h ss i)) := by
  refine ct_s (.cons (oAtD Zwh (ZwZ h ss hok) rfl rfl) .nil) mixed Tryz.func52 rfl rfl rfl ?_
  rw [eThe]
  refine ⟨rfl, ?_⟩
  unfold Zcq
  rw [List.length_map]
  simp only [bifK]
end

section
open Go Go.Proofs
def iIxI : Inl := inlM Tryz.prog [] [] [] Tryz.f179
theorem Zpl : Zbl Tryz.prog 179 iIxI := Zbm .nil .nil .nil mixed Tryz.func179 rfl (Zat Tryz.func179 (by kernel_rfl) rfl)
theorem Zw5 (a x : Int) (K : DV → Prop) : (askH Tryz.prog (hkM [] [] [(179, iIxI)]) Tryz.f134 [.c (.s 0 1 [[vi a]] []), I x] K) = (bif x == a then K (DV.c (D.v (Value.bool true))) else K (DV.c (D.v (Value.bool false)))) := by kernel_rfl
theorem ZvI (a b c x : Int) (K : DV → Prop) : (askH Tryz.prog (hkM [] [] [(179, iIxI)]) Tryz.f134 [.c (.s 0 1 [[vi a], [vi b], [vi c]] []), I x] K) = (bif x == a then K (DV.c (D.v (Value.bool true))) else bif x == b then K (DV.c (D.v (Value.bool true))) else bif x == c then K (DV.c (D.v (Value.bool true))) else K (DV.c (D.v (Value.bool false)))) := by kernel_rfl
def has1 (a x : Int) : Bool := bif x == a then true else false
def has3 (a b c x : Int) : Bool := bif x == a then true else bif x == b then true else bif x == c then true else false
def sHas : Spec := fun ds Q => match ds with
  | [.c (.s 0 1 [[.v (.int .i64 a)]] []), .c (.v (.int .i64 x))] => Q (B (has1 a x))
  | [.c (.s 0 1 [[.v (.int .i64 a)], [.v (.int .i64 b)], [.v (.int .i64 c)]] []), .c (.v (.int .i64 x))] => Q (B (has3 a b c x))
  | _ => False
theorem oHas : Zad Tryz.prog 134 sHas := o_of Tryz.func134 (by kernel_rfl) rfl fun ds Q h => by
  unfold sHas at h; split at h
  · rename_i a x
    refine ⟨_, ct_m .nil .nil (.cons Zpl .nil) mixed Tryz.func134 rfl rfl rfl ?_, rfl, rfl, h⟩
    rw [Zw5]
    refine ⟨?_⟩
    unfold has1; cases x == a <;> rfl
  · rename_i a b c x
    refine ⟨_, ct_m .nil .nil (.cons Zpl .nil) mixed Tryz.func134 rfl rfl rfl ?_, rfl, rfl, h⟩
    rw [ZvI]
    refine ⟨?_⟩
    unfold has3; cases x == a <;> cases x == b <;> cases x == c <;> rfl
  · exact h.elim
def Zmp (s : SesD) : Int := hdJ (s.pg.getD s.pc.toNat [])
def atS (p : Int → Bool) (s : SesD) : Bool := (s.st == 0) && (decide (s.pc < s.pg.length) && p (Zmp s))
def mAt (p : Int → Bool) (h : Mh) (ss : List SesD) (i : Int) : Bool := Zcq h ss i && (match ss[i.toNat]? with | some s => atS p s | none => false)
theorem Ztm {z : Nat} {R : List (List D)} (h : okZ (z + 1) R = true) {k : Nat} (hk : k < R.length) : isJ [IntKind.i64] (R.getD k []) = true := by
  obtain ⟨e, w, _⟩ := Zah h
  rw [e] at hk ⊢
  rw [Zaf] at hk
  exact Zav (j := 0) (n := 1) w hk (by omega)
theorem Ztx {s : SesD} (hs : ZaD s = true) (h0 : 0 ≤ s.pc) (p : Int → Bool) (K : DV → Prop) :
    (bif s.st == 0 then bif decide (s.pc < @Nat.cast Int _ (List.length s.pg)) then bif decide (0 ≤ s.pc) && decide (s.pc < @Nat.cast Int _ (List.length s.pg)) then bif isJ [IntKind.i64] (List.drop 0 (List.getD s.pg (Int.toNat s.pc) [])) then K (DV.c (D.v (Value.bool (p (hdJ (List.drop 0 (List.getD s.pg (Int.toNat s.pc) []))))))) else False else False else K (DV.c (D.v (Value.bool false))) else K (DV.c (D.v (Value.bool false)))) = K (.c (.v (.bool (atS p s)))) := by
  unfold atS Zmp
  rw [List.drop_zero]
  cases hst : s.st == 0
  · simp only [cond_false, Bool.false_and]
  · cases hl : decide (s.pc < @Nat.cast Int _ (List.length s.pg))
    · simp only [cond_true, cond_false, Bool.true_and, Bool.false_and]
    · have hl' := of_decide_eq_true hl
      have hj := Ztm (z := 3) (by unfold ZaD at hs; simp only [Bool.and_eq_true] at hs; exact hs.1) (show s.pc.toNat < s.pg.length by omega)
      simp only [cond_true, Bool.true_and, decide_eq_true h0, hj]
theorem Zc8 {h : Mh} {ss : List SesD} {i : Int} (hm : Zcq h ss i = true) : mmay h ss = true ∧ 0 ≤ i ∧ i < ss.length := by
  unfold Zcq at hm; simpa [Bool.and_eq_true] using hm
theorem ZfX {h : Mh} {ss : List SesD} (hm : mmay h ss = true) : ss.length ≤ 4 ∧ ∀ s ∈ ss, Zam h.w0 h.w1 h.w2 h.w3 s = true := by
  unfold mmay at hm
  simp only [Bool.and_eq_true, Bool.not_eq_true', decide_eq_false_iff_not, List.all_eq_true] at hm
  exact ⟨by omega, hm.2.2.2.2.2.2.1⟩
theorem ZeO {R0 R1 R2 R3 : List (List D)} {s : SesD} (h : Zam R0 R1 R2 R3 s = true) : 0 ≤ s.pc ∧ s.pc ≤ s.pg.length := by
  unfold Zam farB upto at h
  simp only [Bool.and_eq_true, decide_eq_true_eq] at h
  omega
theorem Zjk {h : Mh} {ss : List SesD} {i : Int} (hok : okM h ss = true) (hm : Zcq h ss i = true) : ∃ s, ss[i.toNat]? = some s ∧ ZaD s = true ∧ Zam h.w0 h.w1 h.w2 h.w3 s = true := by
  obtain ⟨g0, g1, g2⟩ := Zc8 hm
  have hl : i.toNat < ss.length := by omega
  have hmem : ss[i.toNat] ∈ ss := List.getElem_mem hl
  exact ⟨ss[i.toNat], List.getElem?_eq_getElem hl, List.all_eq_true.1 (ZbP hok).2.2 _ hmem, (ZfX g0).2 _ hmem⟩
theorem eAt1 (h : Mh) (ss : List SesD) (i : Int) (a : Int) (t : Bool) (K : DV → Prop) : (askH Tryz.prog (hkF [(52, sAtD [.c (.p 0 (macL 0 h ss) 0), I i] (B t)), (134, sHas)] [] []) Tryz.f80 [.c (.p 0 (macL 0 h ss) 0), I i, .c (.s 0 1 [[vi a]] [])] K) = ([DV.c (D.p (0) (macL (0) h ss) (0)), I i] = [DV.c (D.p (0) (macL (0) h ss) (0)), I i] ∧ bif !t then K (DV.c (D.v (Value.bool false))) else bif decide (0 ≤ i) && decide (i < @Nat.cast Int _ (List.length (List.map (sesL (0)) ss))) then ∃ s, ZcU (List.map (sesL (0)) ss) (Int.toNat i) (0) s ∧ bif s.st == 0 then bif decide (s.pc < @Nat.cast Int _ (List.length s.pg)) then bif decide (0 ≤ s.pc) && decide (s.pc < @Nat.cast Int _ (List.length s.pg)) then bif isJ [IntKind.i64] (List.drop (0) (List.getD s.pg (Int.toNat s.pc) [])) then K (DV.c (D.v (Value.bool (has1 a (hdJ (List.drop (0) (List.getD s.pg (Int.toNat s.pc) []))))))) else False else False else K (DV.c (D.v (Value.bool false))) else K (DV.c (D.v (Value.bool false))) else False) := by kernel_rfl
theorem cAt1 (h : Mh) (ss : List SesD) (i : Int) (a : Int) (hok : okM h ss = true) : CT Tryz.prog 80 [.c (.p 0 (macL 0 h ss) 0), I i, .c (.s 0 1 [[vi a]] [])] (B (mAt (has1 a) h ss i)) := by
  refine Ztl (Zhb (.cons (oAtD (Zat Tryz.func52 (by kernel_rfl) rfl) (cThe h ss i hok) rfl rfl) (.cons oHas .nil)) .nil .nil) mixed Zkg Tryz.func80 rfl rfl rfl ?_
  rw [eAt1]
  refine ⟨⟨rfl, ?_⟩⟩
  unfold mAt
  cases hm : Zcq h ss i with
  | false => exact AL.refl _
  | true =>
    obtain ⟨g0, g1, g2⟩ := Zc8 hm
    obtain ⟨s, hs, ho, hy⟩ := Zjk hok hm
    simp only [Bool.not_true, cond_false, cond_true, decide_eq_true g1, List.length_map, decide_eq_true g2, Bool.and_self, hs, Bool.true_and]
    refine ⟨s, ZeK hs, ?_⟩
    have e := Ztx ho (ZeO hy).1 (has1 a) (fun r => AL r (B (atS (has1 a) s)))
    simp only [e]
    exact AL.refl _
end

section
open Go Go.Proofs
def kX (R : List (List D)) : Bool := decide (List.length R ≤ List.length (R ++ [])) && List.all (R ++ []) fun r => List.all r D.keeps
def tC (R : List (List D)) : List (List D) := List.take (List.length R) (R ++ [])
def tD (R : List (List D)) : List (List D) := List.take (List.length R + 0 - List.length R) (List.drop (List.length R) (R ++ []))
def sTt (s : SesD) : List D := [vN s.id, vN s.lb, vN s.cl, .s 1 4 (tC s.pg) (tD s.pg), vN s.st, vN s.pc, vN s.r0, vN s.r1, vN s.r2, vN s.r3, .s 1 3 (tC s.rd) (tD s.rd), .s 1 3 (tC s.wt) (tD s.wt), vN s.at', vN s.sp, vN s.tr, vN s.rs, vN s.to]
theorem ZvG (s : SesD) (K : DV → Prop) : (ask Tryz.prog [(90, Zd9), (149, Zeh), (137, Zb6)] Tryz.f96 [.agg (sesL 0 s)] K) = (bif allV s.pg && decide (List.length s.pg ≤ 4398046510977) then bif allV s.rd && decide (List.length s.rd ≤ 5864062014635) then bif allV s.wt && decide (List.length s.wt ≤ 5864062014635) then bif kX s.pg then bif kX s.rd then bif kX s.wt then K (DV.agg (sTt s)) else False else False else False else False else False else False) := by kernel_rfl
def smR (n : Nat) (R : List (List D)) : Bool := allV R && decide (R.length ≤ n)
def smS (s : SesD) : Bool := smR 4398046510977 s.pg && (smR 5864062014635 s.rd && smR 5864062014635 s.wt)
def smM (h : Mh) (ss : List SesD) : Bool := okC4 h.w0 h.w1 h.w2 h.w3 && (smR 4398046510977 h.tr && ss.all smS)
theorem Zac {n : Nat} {R : List (List D)} (h : smR n R = true) : allV R = true ∧ R.length ≤ n ∧ (R.all fun r => r.all D.keeps) = true := by
  unfold smR at h
  simp only [Bool.and_eq_true, decide_eq_true_eq] at h
  exact ⟨h.1, h.2, Zaq h.1⟩
theorem ZcO {n z m : Nat} {R : List (List D)} (h : okZ z R = true) (hl : R.length ≤ m) (hm : m ≤ n) : smR n R = true := by
  unfold smR
  rw [Zaa h, decide_eq_true (by omega : R.length ≤ n)]; rfl
theorem ZaK {s : SesD} (h : smS s = true) : smR 4398046510977 s.pg = true ∧ smR 5864062014635 s.rd = true ∧ smR 5864062014635 s.wt = true := by
  unfold smS at h; simpa [Bool.and_eq_true] using h
theorem ZbN (R : List (List D)) : List.take R.length R = R := List.take_length
theorem ZfW {s : SesD} (h : smS s = true) : ownL (sesL 1 s) = true := by
  obtain ⟨h1, h2, h3⟩ := ZaK h
  simp only [sesL, ownL, D.pureOwn, ZaQ (Zac h1).1, ZaQ (Zac h2).1, ZaQ (Zac h3).1, ZeI]; rfl
theorem ZvE (s : SesD) (hs : smS s = true) : CT Tryz.prog 96 [.agg (sesL 0 s)] (.agg (sesL 1 s)) := by
  obtain ⟨h1, h2, h3⟩ := ZaK hs
  obtain ⟨a1, a2, a3⟩ := Zac h1
  obtain ⟨b1, b2, b3⟩ := Zac h2
  obtain ⟨c1, c2, c3⟩ := Zac h3
  refine ct_s (.cons Zl6 (.cons Zk8 (.cons Zfy .nil))) mixed Tryz.func96 rfl rfl rfl ?_
  rw [ZvG]
  refine ⟨?_⟩
  simp only [kX, tC, tD, sTt]
  simp only [a1, a2, a3, b1, b2, b3, c1, c2, c3, List.append_nil, Nat.le_refl, decide_true, Bool.and_self, cond_true, ZbN, Nat.add_zero, Nat.sub_self, List.take_zero]
  rfl
def ZcH : Spec := fun ds Q => match ds with
  | [d] => sesA d fun s => cond (smS s) (Q (.agg (sesL 1 s))) False
  | _ => False
theorem Zob : Zad Tryz.prog 96 ZcH := o_al Tryz.func96 (by kernel_rfl) rfl fun ds Q h => by
  unfold ZcH at h; split at h
  · obtain ⟨s, h, r⟩ := ZbQ h
    obtain ⟨h1, h2⟩ := Zag h
    exact ⟨_, _, .cons r .nil, ZvE s h1, ZfW h1, rfl, h2⟩
  · exact h.elim
theorem Zvr (K : DV → Prop) : (ask Tryz.prog [] Tryz.f94 [.c (.s 0 17 ([].map (sesL 0)) [])] K) = (K (DV.c (D.s (1) (17) [] [])) ∧ K (DV.c (D.s (1) (17) [] []))) := by kernel_rfl
theorem ZvJ (s0 : SesD) (K : DV → Prop) : (ask Tryz.prog [] Tryz.f94 [.c (.s 0 17 ([s0].map (sesL 0)) [])] K) = (True ∧ K (DV.c (D.s (1) (17) [(sesL (0) s0)] []))) := by kernel_rfl
theorem Zwv (s0 s1 : SesD) (K : DV → Prop) : (ask Tryz.prog [] Tryz.f94 [.c (.s 0 17 ([s0, s1].map (sesL 0)) [])] K) = (True ∧ K (DV.c (D.s (1) (17) [(sesL (0) s0), (sesL (0) s1)] []))) := by kernel_rfl
theorem ZvQ (s0 s1 s2 : SesD) (K : DV → Prop) : (ask Tryz.prog [] Tryz.f94 [.c (.s 0 17 ([s0, s1, s2].map (sesL 0)) [])] K) = (True ∧ K (DV.c (D.s (1) (17) [(sesL (0) s0), (sesL (0) s1), (sesL (0) s2)] []))) := by kernel_rfl
theorem Zvq (s0 s1 s2 s3 : SesD) (K : DV → Prop) : (ask Tryz.prog [] Tryz.f94 [.c (.s 0 17 ([s0, s1, s2, s3].map (sesL 0)) [])] K) = (True ∧ K (DV.c (D.s (1) (17) [(sesL (0) s0), (sesL (0) s1), (sesL (0) s2), (sesL (0) s3)] []))) := by kernel_rfl
theorem cClS (ss : List SesD) (hl : ss.length ≤ 4) : CT Tryz.prog 94 [.c (.s 0 17 (ss.map (sesL 0)) [])] (.c (.s 1 17 (ss.map (sesL 0)) [])) := by
  rcases ss with _ | ⟨s0, _ | ⟨s1, _ | ⟨s2, _ | ⟨s3, _ | ⟨s4, l⟩⟩⟩⟩⟩
  · refine ct_s .nil mixed Tryz.func94 rfl rfl rfl ?_
    rw [Zvr]
    exact ⟨⟨rfl, rfl⟩⟩
  · refine ct_s .nil mixed Tryz.func94 rfl rfl rfl ?_
    rw [ZvJ]
    exact ⟨⟨trivial, rfl⟩⟩
  · refine ct_s .nil mixed Tryz.func94 rfl rfl rfl ?_
    rw [Zwv]
    exact ⟨⟨trivial, rfl⟩⟩
  · refine ct_s .nil mixed Tryz.func94 rfl rfl rfl ?_
    rw [ZvQ]
    exact ⟨⟨trivial, rfl⟩⟩
  · refine ct_s .nil mixed Tryz.func94 rfl rfl rfl ?_
    rw [Zvq]
    exact ⟨⟨trivial, rfl⟩⟩
  · simp at hl
def sClS : Spec := fun ds Q => match ds with
  | [.c d] => cond d.isOwn False (ZmJ d fun ss => cond (Nat.ble ss.length 4) (Q (.c (.s 1 17 (ss.map (sesL 0)) []))) False)
  | _ => False
theorem oClS : ZlY Tryz.prog 94 sClS := fun ds Q h => by
  refine ⟨Zat Tryz.func94 (by kernel_rfl) rfl, ?_⟩
  unfold sClS at h; split at h
  · rename_i d
    cases hd : d.isOwn with
    | true => rw [hd] at h; exact h.elim
    | false =>
      rw [hd] at h
      obtain ⟨ss, h, r⟩ := Zep h
      obtain ⟨h1, h2⟩ := Zag h
      exact ⟨_, (cClS ss (Nat.le_of_ble_eq_true h1)).args (.cons (.c r hd rfl) .nil), rfl, h2⟩
  · exact h.elim
-- RSUB bif decide \(List\.length ([a-z0-9.]+) ≤ List\.length \(\1 \+\+ \[\]\)\) && List\.all \(\1 \+\+ \[\]\) fun r => List\.all r D\.keeps then =>> bif kX \1 then
-- RSUB List\.take \(List\.length ([a-z0-9.]+) \+ 0 - List\.length \1\) \(List\.drop \(List\.length \1\) \(\1 \+\+ \[\]\)\) =>> tD \1
-- RSUB List\.take \(List\.length ([a-z0-9.]+)\) \(\1 \+\+ \[\]\) =>> tC \1
-- RSUB \[vN ([a-z0-9]+)\.id, vN \1\.lb, vN \1\.cl, D\.s \(1\) \(4\) \(tC \1\.pg\) \(tD \1\.pg\), vN \1\.st, vN \1\.pc, vN \1\.r0, vN \1\.r1, vN \1\.r2, vN \1\.r3, D\.s \(1\) \(3\) \(tC \1\.rd\) \(tD \1\.rd\), D\.s \(1\) \(3\) \(tC \1\.wt\) \(tD \1\.wt\), vN \1\.at', vN \1\.sp, vN \1\.tr, vN \1\.rs, vN \1\.to\] =>> (sTt \1)
theorem ZvN (h : Mh) (K : DV → Prop) : (askH Tryz.prog (hkM [(93, ZbT), (95, Zbt), (96, ZcH)] [(94, sClS)] []) Tryz.f53 [.agg (macL 0 h [])] K) = (bif okC4 h.w0 h.w1 h.w2 h.w3 then bif allV h.tr && decide (List.length h.tr ≤ 4398046510977) then bif kX h.w0 then bif kX h.w1 then bif kX h.w2 then bif kX h.w3 then bif kX h.tr then K (DV.agg [D.s (1) (3) (tC h.w0) (tD h.w0), D.s (1) (3) (tC h.w1) (tD h.w1), D.s (1) (3) (tC h.w2) (tD h.w2), D.s (1) (3) (tC h.w3) (tD h.w3), vN h.c0, vN h.c1, vN h.c2, vN h.c3, vN h.ce, D.s (1) (17) [] [], D.s (1) (4) (tC h.tr) (tD h.tr)]) else False else False else False else False else False else False else False) := by kernel_rfl
theorem ZvM (h : Mh) (s0 : SesD) (K : DV → Prop) : (askH Tryz.prog (hkM [(93, ZbT), (95, Zbt), (96, ZcH)] [(94, sClS)] []) Tryz.f53 [.agg (macL 0 h [s0])] K) = (bif okC4 h.w0 h.w1 h.w2 h.w3 then bif allV h.tr && decide (List.length h.tr ≤ 4398046510977) then bif smS s0 then bif kX h.w0 then bif kX h.w1 then bif kX h.w2 then bif kX h.w3 then bif kX s0.pg then bif kX s0.rd then bif kX s0.wt then bif kX h.tr then K (DV.agg [D.s (1) (3) (tC h.w0) (tD h.w0), D.s (1) (3) (tC h.w1) (tD h.w1), D.s (1) (3) (tC h.w2) (tD h.w2), D.s (1) (3) (tC h.w3) (tD h.w3), vN h.c0, vN h.c1, vN h.c2, vN h.c3, vN h.ce, D.s (1) (17) [(sTt s0)] [], D.s (1) (4) (tC h.tr) (tD h.tr)]) else False else False else False else False else False else False else False else False else False else False else False) := by kernel_rfl
theorem Zw3 (h : Mh) (s0 s1 : SesD) (K : DV → Prop) : (askH Tryz.prog (hkM [(93, ZbT), (95, Zbt), (96, ZcH)] [(94, sClS)] []) Tryz.f53 [.agg (macL 0 h [s0, s1])] K) = (bif okC4 h.w0 h.w1 h.w2 h.w3 then bif allV h.tr && decide (List.length h.tr ≤ 4398046510977) then bif smS s0 then bif smS s1 then bif kX h.w0 then bif kX h.w1 then bif kX h.w2 then bif kX h.w3 then bif kX s0.pg then bif kX s0.rd then bif kX s0.wt then bif kX s1.pg then bif kX s1.rd then bif kX s1.wt then bif kX h.tr then K (DV.agg [D.s (1) (3) (tC h.w0) (tD h.w0), D.s (1) (3) (tC h.w1) (tD h.w1), D.s (1) (3) (tC h.w2) (tD h.w2), D.s (1) (3) (tC h.w3) (tD h.w3), vN h.c0, vN h.c1, vN h.c2, vN h.c3, vN h.ce, D.s (1) (17) [(sTt s0), (sTt s1)] [], D.s (1) (4) (tC h.tr) (tD h.tr)]) else False else False else False else False else False else False else False else False else False else False else False else False else False else False else False) := by kernel_rfl
theorem ZvX (h : Mh) (s0 s1 s2 : SesD) (K : DV → Prop) : (askH Tryz.prog (hkM [(93, ZbT), (95, Zbt), (96, ZcH)] [(94, sClS)] []) Tryz.f53 [.agg (macL 0 h [s0, s1, s2])] K) = (bif okC4 h.w0 h.w1 h.w2 h.w3 then bif allV h.tr && decide (List.length h.tr ≤ 4398046510977) then bif smS s0 then bif smS s1 then bif smS s2 then bif kX h.w0 then bif kX h.w1 then bif kX h.w2 then bif kX h.w3 then bif kX s0.pg then bif kX s0.rd then bif kX s0.wt then bif kX s1.pg then bif kX s1.rd then bif kX s1.wt then bif kX s2.pg then bif kX s2.rd then bif kX s2.wt then bif kX h.tr then K (DV.agg [D.s (1) (3) (tC h.w0) (tD h.w0), D.s (1) (3) (tC h.w1) (tD h.w1), D.s (1) (3) (tC h.w2) (tD h.w2), D.s (1) (3) (tC h.w3) (tD h.w3), vN h.c0, vN h.c1, vN h.c2, vN h.c3, vN h.ce, D.s (1) (17) [(sTt s0), (sTt s1), (sTt s2)] [], D.s (1) (4) (tC h.tr) (tD h.tr)]) else False else False else False else False else False else False else False else False else False else False else False else False else False else False else False else False else False else False else False) := by kernel_rfl
theorem Zwn (h : Mh) (s0 s1 s2 s3 : SesD) (K : DV → Prop) : (askH Tryz.prog (hkM [(93, ZbT), (95, Zbt), (96, ZcH)] [(94, sClS)] []) Tryz.f53 [.agg (macL 0 h [s0, s1, s2, s3])] K) = (bif okC4 h.w0 h.w1 h.w2 h.w3 then bif allV h.tr && decide (List.length h.tr ≤ 4398046510977) then bif smS s0 then bif smS s1 then bif smS s2 then bif smS s3 then bif kX h.w0 then bif kX h.w1 then bif kX h.w2 then bif kX h.w3 then bif kX s0.pg then bif kX s0.rd then bif kX s0.wt then bif kX s1.pg then bif kX s1.rd then bif kX s1.wt then bif kX s2.pg then bif kX s2.rd then bif kX s2.wt then bif kX s3.pg then bif kX s3.rd then bif kX s3.wt then bif kX h.tr then K (DV.agg [D.s (1) (3) (tC h.w0) (tD h.w0), D.s (1) (3) (tC h.w1) (tD h.w1), D.s (1) (3) (tC h.w2) (tD h.w2), D.s (1) (3) (tC h.w3) (tD h.w3), vN h.c0, vN h.c1, vN h.c2, vN h.c3, vN h.ce, D.s (1) (17) [(sTt s0), (sTt s1), (sTt s2), (sTt s3)] [], D.s (1) (4) (tC h.tr) (tD h.tr)]) else False else False else False else False else False else False else False else False else False else False else False else False else False else False else False else False else False else False else False else False else False else False else False) := by kernel_rfl
theorem Zc5 {h : Mh} {ss : List SesD} (hm : smM h ss = true) : (smR 5864062014635 h.w0 = true ∧ smR 5864062014635 h.w1 = true ∧ smR 5864062014635 h.w2 = true ∧ smR 5864062014635 h.w3 = true) ∧ smR 4398046510977 h.tr = true ∧ ∀ s ∈ ss, smS s = true := by
  unfold smM okC4 okC at hm
  simp only [Bool.and_eq_true, List.all_eq_true] at hm
  unfold smR
  simp only [Bool.and_eq_true]
  refine ⟨⟨hm.1.1, hm.1.2.1, hm.1.2.2.1, hm.1.2.2.2⟩, ?_, hm.2.2⟩
  have := hm.2.1
  unfold smR at this
  rw [Bool.and_eq_true] at this
  exact this
theorem Zmw {h : Mh} {ss : List SesD} (hm : smM h ss = true) : okC4 h.w0 h.w1 h.w2 h.w3 = true := by unfold smM at hm; rw [Bool.and_eq_true] at hm; exact hm.1
theorem ZiX {h : Mh} {ss : List SesD} (hm : smM h ss = true) : ownL (macL 1 h ss) = true := by
  obtain ⟨⟨a0, a1, a2, a3⟩, a4, a5⟩ := Zc5 hm
  have h6 : ZeI (ss.map (sesL 1)) = true := by
    clear hm
    induction ss with
    | nil => rfl
    | cons s l ih => simp only [List.map_cons, ZeI, ZfW (a5 s (by simp)), ih fun q hq => a5 q (by simp [hq])]; rfl
  simp only [macL, ownL, D.pureOwn, ZaQ (Zac a0).1, ZaQ (Zac a1).1, ZaQ (Zac a2).1, ZaQ (Zac a3).1, ZaQ (Zac a4).1, h6, ZeI]; rfl
theorem cCop (h : Mh) (ss : List SesD) (hl : ss.length ≤ 4) (hm : smM h ss = true) : CT Tryz.prog 53 [.agg (macL 0 h ss)] (.agg (macL 1 h ss)) := by
  have h4 := Zmw hm
  obtain ⟨⟨a0, a1, a2, a3⟩, a4, a5⟩ := Zc5 hm
  obtain ⟨_, _, b0⟩ := Zac a0
  obtain ⟨_, _, b1⟩ := Zac a1
  obtain ⟨_, _, b2⟩ := Zac a2
  obtain ⟨_, _, b3⟩ := Zac a3
  obtain ⟨t1, t2, t3⟩ := Zac a4
  rcases ss with _ | ⟨s0, _ | ⟨s1, _ | ⟨s2, _ | ⟨s3, _ | ⟨s4, l⟩⟩⟩⟩⟩
  · refine ct_m (.cons Zji (.cons Zb8 (.cons Zob .nil))) (.cons oClS .nil) .nil mixed Tryz.func53 rfl rfl rfl ?_
    rw [ZvN]
    refine ⟨?_⟩
    simp only [kX, tC, tD, sTt]
    simp only [h4, b0, b1, b2, b3, t1, t2, t3, List.append_nil, Nat.le_refl, decide_true, Bool.and_self, cond_true, ZbN, Nat.add_zero, Nat.sub_self, List.take_zero]
    rfl
  · have q0 := a5 s0 (by simp)
    obtain ⟨p0, r0, w0⟩ := ZaK q0
    obtain ⟨_, _, x0⟩ := Zac p0
    obtain ⟨_, _, y0⟩ := Zac r0
    obtain ⟨_, _, z0⟩ := Zac w0
    refine ct_m (.cons Zji (.cons Zb8 (.cons Zob .nil))) (.cons oClS .nil) .nil mixed Tryz.func53 rfl rfl rfl ?_
    rw [ZvM]
    refine ⟨?_⟩
    simp only [kX, tC, tD, sTt]
    simp only [h4, b0, b1, b2, b3, t1, t2, t3, q0, x0, y0, z0, List.append_nil, Nat.le_refl, decide_true, Bool.and_self, cond_true, ZbN, Nat.add_zero, Nat.sub_self, List.take_zero]
    rfl
  · have q0 := a5 s0 (by simp)
    obtain ⟨p0, r0, w0⟩ := ZaK q0
    obtain ⟨_, _, x0⟩ := Zac p0
    obtain ⟨_, _, y0⟩ := Zac r0
    obtain ⟨_, _, z0⟩ := Zac w0
    have q1 := a5 s1 (by simp)
    obtain ⟨p1, r1, w1⟩ := ZaK q1
    obtain ⟨_, _, x1⟩ := Zac p1
    obtain ⟨_, _, y1⟩ := Zac r1
    obtain ⟨_, _, z1⟩ := Zac w1
    refine ct_m (.cons Zji (.cons Zb8 (.cons Zob .nil))) (.cons oClS .nil) .nil mixed Tryz.func53 rfl rfl rfl ?_
    rw [Zw3]
    refine ⟨?_⟩
    simp only [kX, tC, tD, sTt]
    simp only [h4, b0, b1, b2, b3, t1, t2, t3, q0, x0, y0, z0, q1, x1, y1, z1, List.append_nil, Nat.le_refl, decide_true, Bool.and_self, cond_true, ZbN, Nat.add_zero, Nat.sub_self, List.take_zero]
    rfl
  · have q0 := a5 s0 (by simp)
    obtain ⟨p0, r0, w0⟩ := ZaK q0
    obtain ⟨_, _, x0⟩ := Zac p0
    obtain ⟨_, _, y0⟩ := Zac r0
    obtain ⟨_, _, z0⟩ := Zac w0
    have q1 := a5 s1 (by simp)
    obtain ⟨p1, r1, w1⟩ := ZaK q1
    obtain ⟨_, _, x1⟩ := Zac p1
    obtain ⟨_, _, y1⟩ := Zac r1
    obtain ⟨_, _, z1⟩ := Zac w1
    have q2 := a5 s2 (by simp)
    obtain ⟨p2, r2, w2⟩ := ZaK q2
    obtain ⟨_, _, x2⟩ := Zac p2
    obtain ⟨_, _, y2⟩ := Zac r2
    obtain ⟨_, _, z2⟩ := Zac w2
    refine ct_m (.cons Zji (.cons Zb8 (.cons Zob .nil))) (.cons oClS .nil) .nil mixed Tryz.func53 rfl rfl rfl ?_
    rw [ZvX]
    refine ⟨?_⟩
    simp only [kX, tC, tD, sTt]
    simp only [h4, b0, b1, b2, b3, t1, t2, t3, q0, x0, y0, z0, q1, x1, y1, z1, q2, x2, y2, z2, List.append_nil, Nat.le_refl, decide_true, Bool.and_self, cond_true, ZbN, Nat.add_zero, Nat.sub_self, List.take_zero]
    rfl
  · have q0 := a5 s0 (by simp)
    obtain ⟨p0, r0, w0⟩ := ZaK q0
    obtain ⟨_, _, x0⟩ := Zac p0
    obtain ⟨_, _, y0⟩ := Zac r0
    obtain ⟨_, _, z0⟩ := Zac w0
    have q1 := a5 s1 (by simp)
    obtain ⟨p1, r1, w1⟩ := ZaK q1
    obtain ⟨_, _, x1⟩ := Zac p1
    obtain ⟨_, _, y1⟩ := Zac r1
    obtain ⟨_, _, z1⟩ := Zac w1
    have q2 := a5 s2 (by simp)
    obtain ⟨p2, r2, w2⟩ := ZaK q2
    obtain ⟨_, _, x2⟩ := Zac p2
    obtain ⟨_, _, y2⟩ := Zac r2
    obtain ⟨_, _, z2⟩ := Zac w2
    have q3 := a5 s3 (by simp)
    obtain ⟨p3, r3, w3⟩ := ZaK q3
    obtain ⟨_, _, x3⟩ := Zac p3
    obtain ⟨_, _, y3⟩ := Zac r3
    obtain ⟨_, _, z3⟩ := Zac w3
    refine ct_m (.cons Zji (.cons Zb8 (.cons Zob .nil))) (.cons oClS .nil) .nil mixed Tryz.func53 rfl rfl rfl ?_
    rw [Zwn]
    refine ⟨?_⟩
    simp only [kX, tC, tD, sTt]
    simp only [h4, b0, b1, b2, b3, t1, t2, t3, q0, x0, y0, z0, q1, x1, y1, z1, q2, x2, y2, z2, q3, x3, y3, z3, List.append_nil, Nat.le_refl, decide_true, Bool.and_self, cond_true, ZbN, Nat.add_zero, Nat.sub_self, List.take_zero]
    rfl
  · simp at hl
def sCop : Spec := fun ds Q => match ds with
  | [d] => macA d fun h ss => cond (Nat.ble ss.length 4 && smM h ss) (Q (.agg (macL 1 h ss))) False
  | _ => False
def Zuq : Inl := inlM Tryz.prog [] [] [] Tryz.f54
theorem Zqu : Zbl Tryz.prog 54 Zuq := Zbm .nil .nil .nil mixed Tryz.func54 rfl (Zat Tryz.func54 (by kernel_rfl) rfl)
end

section
open Go Go.Proofs
instance : Inhabited SesD := ⟨⟨0, 0, 0, [], 0, 0, 0, 0, 0, 0, [], [], 0, 0, 0, 0, 0⟩⟩
theorem Zik {l : List (List Int)} (h : pmay l = true) : l.length ≤ 16 := by unfold pmay at h; simp only [Bool.and_eq_true, decide_eq_true_eq] at h; exact h.2
theorem ZqB {l : List (List Int)} (h : rmay l = true) : l.length ≤ 16 := by unfold rmay at h; simp only [Bool.and_eq_true, decide_eq_true_eq] at h; exact h.1
theorem Zi8 {l : List (List Int)} (h : ZbE l = true) : l.length ≤ 16 := by unfold ZbE at h; simp only [Bool.and_eq_true, decide_eq_true_eq] at h; exact h.1
theorem ZdZ {l : List (List Int)} (h : ZaN l = true) : l.length ≤ 4 := by
  unfold ZaN at h
  simp only [Bool.not_eq_true', Bool.or_eq_false_iff, decide_eq_false_iff_not] at h
  omega
theorem Zpr {R0 R1 R2 R3 : List (List D)} {s : SesD} (hs : ZaD s = true) (h : Zam R0 R1 R2 R3 s = true) : smS s = true := by
  unfold Zam Zj4 smay at h
  simp only [Bool.and_eq_true] at h
  unfold ZaD at hs
  simp only [Bool.and_eq_true] at hs
  have a1 := Zik h.1.2.2.2.2
  have a2 := ZqB h.2.1.1
  have a3 := Zi8 h.2.1.2.1
  rw [Zal] at a1 a2 a3
  unfold smS
  rw [ZcO hs.1 a1 (by omega), ZcO hs.2.1 a2 (by omega), ZcO hs.2.2 a3 (by omega)]; rfl
theorem Zpq {h : Mh} {ss : List SesD} (ho : okM h ss = true) (hm : mmay h ss = true) : smM h ss = true := by
  obtain ⟨h1, h2, h3⟩ := ZbP ho
  obtain ⟨_, g5⟩ := ZfX hm
  unfold mmay amay at hm
  simp only [Bool.and_eq_true, Bool.not_eq_true', decide_eq_false_iff_not] at hm
  obtain ⟨⟨a0, a1, a2, a3⟩, _, _, _, htr, _⟩ := hm
  unfold okA at h1
  simp only [Bool.and_eq_true] at h1
  have l0 := ZdZ a0
  have l1 := ZdZ a1
  have l2 := ZdZ a2
  have l3 := ZdZ a3
  rw [Zal] at l0 l1 l2 l3
  have e0 : okC h.w0 = true := ZcO (n := 5864062014635) h1.1 l0 (by omega)
  have e1 : okC h.w1 = true := ZcO (n := 5864062014635) h1.2.1 l1 (by omega)
  have e2 : okC h.w2 = true := ZcO (n := 5864062014635) h1.2.2.1 l2 (by omega)
  have e3 : okC h.w3 = true := ZcO (n := 5864062014635) h1.2.2.2 l3 (by omega)
  unfold smM okC4
  rw [e0, e1, e2, e3, ZcO (n := 4398046510977) (m := 512) h2 (by omega) (by omega)]
  simp only [Bool.and_self, Bool.true_and, List.all_eq_true]
  intro s hs
  exact Zpr (List.all_eq_true.1 h3 s hs) (g5 s hs)
abbrev macE (e : Int) : DV := .tup [.agg (macL 1 h0 []), I e]
abbrev macR (h : Mh) (ss : List SesD) (e : Int) : DV := .tup [.agg (macL 1 h ss), I e]
theorem Zry {h : Mh} {ss : List SesD} (hm : smM h ss = true) : ((h.w0.all fun r => r.all D.keeps) = true ∧ (h.w1.all fun r => r.all D.keeps) = true ∧ (h.w2.all fun r => r.all D.keeps) = true ∧ (h.w3.all fun r => r.all D.keeps) = true) ∧ (h.tr.all fun r => r.all D.keeps) = true ∧ ∀ s ∈ ss, (s.pg.all fun r => r.all D.keeps) = true ∧ (s.rd.all fun r => r.all D.keeps) = true ∧ (s.wt.all fun r => r.all D.keeps) = true := by
  obtain ⟨⟨a0, a1, a2, a3⟩, a4, a5⟩ := Zc5 hm
  exact ⟨⟨(Zac a0).2.2, (Zac a1).2.2, (Zac a2).2.2, (Zac a3).2.2⟩, (Zac a4).2.2, fun s hs => by
    obtain ⟨p, r, w⟩ := ZaK (a5 s hs)
    exact ⟨(Zac p).2.2, (Zac r).2.2, (Zac w).2.2⟩⟩
structure Foc (h : Mh) (ss : List SesD) (i : Int) (s : SesD) : Prop where
  at' : ss[i.toNat]? = some s
  ok : ZaD s = true
  may : Zam h.w0 h.w1 h.w2 h.w3 s = true
  lt : i.toNat < ss.length
  i0 : 0 ≤ i
  i1 : i < ss.length
  sm : smM h ss = true
  len : ss.length ≤ 4
  mm : mmay h ss = true
  w0 : allK h.w0 = true
  w1 : allK h.w1 = true
  w2 : allK h.w2 = true
  w3 : allK h.w3 = true
  tr : allK h.tr = true
  tl : h.tr.length ≤ 512
theorem foc {h : Mh} {ss : List SesD} {i : Int} (hok : okM h ss = true) (hm : Zcq h ss i = true) : ∃ s, Foc h ss i s := by
  obtain ⟨s, h1, h2, h3⟩ := Zjk hok hm
  obtain ⟨g0, g1, g2⟩ := Zc8 hm
  have hsm := Zpq hok g0
  obtain ⟨⟨b0, b1, b2, b3⟩, t3, _⟩ := Zry hsm
  refine ⟨s, h1, h2, h3, by omega, g1, g2, hsm, (ZfX g0).1, g0, b0, b1, b2, b3, t3, ?_⟩
  unfold mmay at g0
  simp only [Bool.and_eq_true, Bool.not_eq_true', decide_eq_false_iff_not] at g0
  omega
theorem Foc.getD {h : Mh} {ss : List SesD} {i : Int} {s : SesD} (f : Foc h ss i s) : ss.getD i.toNat default = s := by
  rw [List.getD_eq_getElem?_getD, f.at']; rfl
theorem Foc.foAt {h : Mh} {ss : List SesD} {i : Int} {s : SesD} (f : Foc h ss i s) : Vm.foAt (addN 0 i.toNat) i.toNat (List.length (List.map (sesL 1) ss)) := Zq9.2 ⟨rfl, by rw [List.length_map]; exact f.lt⟩
theorem Foc.ix {h : Mh} {ss : List SesD} {i : Int} {s : SesD} (f : Foc h ss i s) : (decide (0 ≤ i) && decide (i < @Nat.cast Int _ (List.length (List.map (sesL 1) ss)))) = true := by
  rw [List.length_map, decide_eq_true f.i0, decide_eq_true f.i1]; rfl
theorem Foc.row {h : Mh} {ss : List SesD} {i : Int} {s : SesD} (f : Foc h ss i s) : ZcU (List.map (sesL 1) ss) (Int.toNat i) 1 s := ZeK f.at'
theorem Foc.ow0 {h : Mh} {ss : List SesD} {i : Int} {s : SesD} (f : Foc h ss i s) : whole h.w0.length h.w0 := Za1 f.w0
theorem Foc.ow1 {h : Mh} {ss : List SesD} {i : Int} {s : SesD} (f : Foc h ss i s) : whole h.w1.length h.w1 := Za1 f.w1
theorem Foc.ow2 {h : Mh} {ss : List SesD} {i : Int} {s : SesD} (f : Foc h ss i s) : whole h.w2.length h.w2 := Za1 f.w2
theorem Foc.ow3 {h : Mh} {ss : List SesD} {i : Int} {s : SesD} (f : Foc h ss i s) : whole h.w3.length h.w3 := Za1 f.w3
theorem Foc.otr {h : Mh} {ss : List SesD} {i : Int} {s : SesD} (f : Foc h ss i s) : whole h.tr.length h.tr := Za1 f.tr
theorem Foc.oss {h : Mh} {ss : List SesD} {i : Int} {s : SesD} (f : Foc h ss i s) (j : Nat) (s' : SesD) : whole (List.length (List.map (sesL 1) ss)) (List.set (List.map (sesL 1) ss) j (sesL 1 s')) := Zof (List.length_map _)
theorem Zo1 {R : List (List D)} {r : List D} (h : allK R = true) (hr : r.all D.keeps = true) : whole (R.length + 1) (List.take R.length R ++ [r]) := by
  rw [List.take_length]
  refine ⟨by simp, ?_⟩
  unfold allK at *
  rw [List.all_append, h]; simp [hr]
theorem Zpu (h : Mh) (ss : List SesD) (j : Nat) (s : SesD) (e : Int) : AL (.tup [.agg (ZaY 1 h (List.set (List.map (sesL 1) ss) j (sesL 1 s))), I e]) (macR h (ss.set j s) e) := by
  rw [Zoh, ZqM]; exact AL.refl _
theorem Zrt (e : Int) : AL (.tup [.agg mac0, I e]) (macE e) := Zub e
theorem gCop : Goes Tryz.prog 53 := Zat Tryz.func53 (by kernel_rfl) rfl
theorem gAt : Goes Tryz.prog 80 := Zat Tryz.func80 (by kernel_rfl) rfl
def iCpF (t : Bool) (h : Mh) (ss : List SesD) (i : Int) (s : SesD) : Inl := Zqq Tryz.prog [34] (sIf t (sAtD [.agg (macL 0 h ss)] (.agg (macL 1 h ss)))) (matF i.toNat s)
theorem Zlm {h : Mh} {ss : List SesD} (hm : smM h ss = true) : (DV.agg (macL 1 h ss)).pureOwn = true := ZiX hm
theorem ZsW {t : Bool} {h : Mh} {ss : List SesD} (i : Int) (s : SesD) (hl : t = true → smM h ss = true ∧ ss.length ≤ 4) : Zbl Tryz.prog 53 (iCpF t h ss i s) :=
  Ziw (Zp5 _ _) (oIf fun ht => oAtD gCop (cCop h ss (hl ht).2 (hl ht).1) (Zlm (hl ht).1) rfl)
theorem Zjm {h : Mh} {ss : List SesD} (i : Int) (hok : okM h ss = true) : Zcq h ss i = true → smM h ss = true ∧ ss.length ≤ 4 := fun hm => by
  obtain ⟨g0, _, _⟩ := Zc8 hm
  exact ⟨Zpq hok g0, (ZfX g0).1⟩
theorem ZqR {R : List (List D)} {r : List D} (h : allV R = true) (hr : allV [r] = true) : allV (R ++ [r]) = true := by
  unfold allV at *
  rw [List.all_append, h, hr]; rfl
theorem ZiE {h : Mh} {ss : List SesD} (hm : smM h ss = true) (e : Int) : (macR h ss e).pureOwn = true := by
  have := ZiX hm
  simp only [macR, DV.pureOwn, DV.pureOwn.go, this]
  rfl
end

section
open Go Go.Proofs
def wdsB (R0 R1 R2 R3 : List (List D)) (s : SesD) : Bool := !(toZ s.pg).any (noIn R0 R1 R2 R3) && (!(toZ s.wt).any (noWr R0 R1 R2 R3) && !(toZ s.rd).any (noRd R0 R1 R2 R3))
theorem Zrw (a b c d : List (List Int)) (l : List (List Int)) : l.all (thv a b c d) = !l.any (noRd (mZ a) (mZ b) (mZ c) (mZ d)) := by
  rw [List.all_eq_not_any_not]
  congr 2
  funext r
  unfold thv noRd thW
  rw [Zaf, Zaf, Zaf, Zaf]
theorem cWds (R0 R1 R2 R3 : List (List D)) (s : SesD) (hA : okA R0 R1 R2 R3 = true) (hs : ZaD s = true) : CT Tryz.prog 120 [.agg (wsL R0 R1 R2 R3), .agg (sesL 0 s)] (B (wdsB R0 R1 R2 R3 s)) := by
  obtain ⟨q0, q1, q2, q3⟩ := Zb2 hA
  obtain ⟨a1, a2, _⟩ := Zah q0
  obtain ⟨b1, b2, _⟩ := Zah q1
  obtain ⟨c1, c2, _⟩ := Zah q2
  obtain ⟨d1, d2, _⟩ := Zah q3
  obtain ⟨e, ⟨hp, hpl⟩, ⟨hr, hrl⟩, ⟨hw, hwl⟩⟩ := ZnU hs
  have hz : okZ 3 s.rd = true := by unfold ZaD at hs; simp only [Bool.and_eq_true] at hs; exact hs.2.1
  rw [a1, b1, c1, d1] at hA ⊢
  have hz2 : okZ 3 (mZ (toZ s.rd)) = true := by rw [← (Zah hz).1]; exact hz
  rw [e]
  generalize toZ R0 = a at *
  generalize toZ R1 = b at *
  generalize toZ R2 = c at *
  generalize toZ R3 = d at *
  generalize toZ s.pg = p at *
  generalize toZ s.rd = r at *
  generalize toZ s.wt = w at *
  refine ZjU (m := [(2, fWd1 a b c d s p r w), (8, fWd2 a b c d s p r w)]) (.cons Zjq (.cons oRT .nil)) mixed (ZtC rfl (by kernel_rfl) (by kernel_rfl) rfl (kWd1 hp hpl) (kWd2 hw hwl)) Tryz.func120 rfl rfl rfl ?_
  rw [eWds]
  unfold wdsB SesD.on
  simp only [Zdz]
  refine ⟨⟨trivial, fun i hi => ?_, fun hn => ⟨trivial, fun i hi => ?_, fun hn2 => ?_⟩⟩⟩
  · rw [hi.any]; rfl
  · rw [hn.any, hi.any]; rfl
  · rw [hn.any, hn2.any, hA, hz2, Zrw]; rfl
def sWds : Spec := fun ds Q => match ds with
  | [.agg cs, e] => cond (Zll cs && Nat.beq cs.length 4) (Zhv cs fun R0 R1 R2 R3 => sesA e fun s => cond (okA R0 R1 R2 R3 && ZaD s) (Q (B (wdsB R0 R1 R2 R3 s))) False) False
  | _ => False
theorem oWds : Zad Tryz.prog 120 sWds := o_al Tryz.func120 (by kernel_rfl) rfl fun ds Q h => by
  unfold sWds at h; split at h
  · obtain ⟨h0, h⟩ := Zag h
    rw [Bool.and_eq_true] at h0
    have hl := Zab h0.2
    obtain ⟨R0, R1, R2, R3, h, r1⟩ := Zc0 h
    obtain ⟨s, h, r2⟩ := ZbQ h
    obtain ⟨h1, h2⟩ := Zag h
    rw [Bool.and_eq_true] at h1
    rw [List.take_of_length_le (Nat.le_of_eq hl)] at r1
    exact ⟨_, _, .cons (.agg r1 h0.1 rfl) (.cons r2 .nil), cWds R0 R1 R2 R3 s h1.1 h1.2, rfl, rfl, h2⟩
  · exact h.elim
theorem eUp2 (x l m : Int) (K : DV → Prop) : (ask Tryz.prog [] Tryz.f56 [I x, I l, I m] K) = (bif decide (x ≥ l) then K (DV.c (D.v (Value.bool (decide (x ≤ m))))) else K (DV.c (D.v (Value.bool false)))) := by kernel_rfl
theorem oUp2 : Zad Tryz.prog 56 sUp := o_of Tryz.func56 (by kernel_rfl) rfl fun ds Q h => by
  unfold sUp at h; split at h
  · refine ⟨_, Zak .nil mixed Tryz.func56 rfl rfl rfl ?_, rfl, rfl, h⟩
    rw [eUp2]; rename_i x l m; unfold upto; cases decide (x ≥ l) <;> rfl
  · exact h.elim
theorem ZvH (h : Mh) (ss : List SesD) (s : SesD) (K : DV → Prop) : (ask Tryz.prog [(92, Zl4), (120, sWds), (56, sUp), (121, Zqs), (122, sRM), (123, sWMy), (69, sB clk), (91, sB val8)] Tryz.f70 [.agg (macL 0 h ss), .agg (sesL 0 s)] K) = (bif okZ (4) s.pg then bif !smay s.id s.lb s.cl (toZ s.pg) then K (DV.c (D.v (Value.bool false))) else bif okA h.w0 h.w1 h.w2 h.w3 && ZaD s then bif !wdsB h.w0 h.w1 h.w2 h.w3 s then K (DV.c (D.v (Value.bool false))) else bif !upto s.st (0) (6) then K (DV.c (D.v (Value.bool false))) else bif !upto s.pc (0) (@Nat.cast Int _ (List.length s.pg)) then K (DV.c (D.v (Value.bool false))) else bif !v4 s.r0 s.r1 s.r2 s.r3 then K (DV.c (D.v (Value.bool false))) else bif okZ (3) s.rd then bif !rmay (toZ s.rd) then K (DV.c (D.v (Value.bool false))) else bif okZ (3) s.wt then bif !ZbE (toZ s.wt) then K (DV.c (D.v (Value.bool false))) else bif upto s.at' (0) (@Nat.cast Int _ (List.length s.wt)) then bif clk s.sp then bif clk s.tr then bif upto s.rs (0) (5) then K (DV.c (D.v (Value.bool (val8 s.to)))) else K (DV.c (D.v (Value.bool false))) else K (DV.c (D.v (Value.bool false))) else K (DV.c (D.v (Value.bool false))) else K (DV.c (D.v (Value.bool false))) else False else False else False else False) := by kernel_rfl
theorem ZwN (h : Mh) (ss : List SesD) (s : SesD) (hA : okA h.w0 h.w1 h.w2 h.w3 = true) (hs : ZaD s = true) : CT Tryz.prog 70 [.agg (macL 0 h ss), .agg (sesL 0 s)] (B (Zam h.w0 h.w1 h.w2 h.w3 s)) := by
  refine ct_s (.cons Zo9 (.cons oWds (.cons oUp2 (.cons ZuD (.cons oQM (.cons oWPy (.cons Zhf (.cons ZgJ .nil)))))))) mixed Tryz.func70 rfl rfl rfl ?_
  rw [ZvH]
  refine ⟨?_⟩
  have hz := hs
  unfold ZaD at hz
  simp only [Bool.and_eq_true] at hz
  simp only [hz.1, hz.2.1, hz.2.2, hA, hs, Bool.and_self, cond_true, bifN, bifK]
  unfold Zam Zj4 farB Znl wdsB
  congr 3
  ac_rfl
def ZjR : Spec := fun ds Q => match ds with
  | [d, e] => macA d fun h _ => sesA e fun s => cond (okA h.w0 h.w1 h.w2 h.w3 && ZaD s) (Q (B (Zam h.w0 h.w1 h.w2 h.w3 s))) False
  | _ => False
theorem Zp7 : Zad Tryz.prog 70 ZjR := o_al Tryz.func70 (by kernel_rfl) rfl fun ds Q hq => by
  unfold ZjR at hq; split at hq
  · obtain ⟨h, ss, hq, r1⟩ := ZcK hq
    obtain ⟨s, hq, r⟩ := ZbQ hq
    obtain ⟨h1, h2⟩ := Zag hq
    rw [Bool.and_eq_true] at h1
    exact ⟨_, _, .cons r1 (.cons r .nil), ZwN h ss s h1.1 h1.2, rfl, rfl, h2⟩
  · exact hq.elim
def stTr (h : Mh) (ss : List SesD) (v : Bool) (i : Int) : X := ⟨mkT 90 [(1, .c (.rp 2 0 11 0 0)), (2, ab v), (5, ai i)], [(2, .bx 0 11 ((macL 0 h ss).map C.d))], [], []⟩
def ZhS (h : Mh) (ss : List SesD) : Vw := fun y K => wB y 2 fun v => wI y 5 fun i => K (stTr h ss v i)
theorem Zjo (h : Mh) (ss : List SesD) : VwOK (ZhS h ss) := fun y K h => by
  unfold ZhS at h
  obtain ⟨v, h⟩ := Zdx h
  obtain ⟨i, h⟩ := Zcc h
  exact ⟨_, h⟩
theorem rTr (h : Mh) (ss : List SesD) (v : Bool) (i : Int) (N : X → Prop) (E : Exit → X → Prop) : (ZcR Tryz.prog (hkA band bor [(71, sB lab)] []) Tryz.f27 2 [] [1, 2, 5] [2] (ZhS h ss) (fun _ => ZhS h ss) N E (stTr h ss v i)) = (bif decide (i < @Nat.cast Int _ (List.length h.tr)) then bif decide (0 ≤ i) && decide (i < @Nat.cast Int _ (List.length h.tr)) then bif isJ [IntKind.i64] (List.drop (1) (List.getD h.tr (Int.toNat i) [])) then bif !lab (hdJ (List.drop (1) (List.getD h.tr (Int.toNat i) []))) then stTr h ss false i = stTr h ss false i ∧ E Exit.ret (stTr h ss false i) else stTr h ss v (IntKind.wrap IntKind.i64 (i + 1)) = stTr h ss v (IntKind.wrap IntKind.i64 (i + 1)) ∧ N (stTr h ss v (IntKind.wrap IntKind.i64 (i + 1))) else False else False else stTr h ss v i = stTr h ss v i ∧ E (Exit.exit (4)) (stTr h ss v i)) := by kernel_rfl
def Mh.on (h : Mh) (t : List (List Int)) : Mh := { h with tr := mZ t }
def fTr (h : Mh) (ss : List SesD) (t : List (List Int)) : LSum := Zdv [1, 2, 5] [2] (fun i => stTr (h.on t) ss false i) (fun i => stTr (h.on t) ss false i) t.length (fun i => noEv (t.getD i [])) .ret (.exit 4)
theorem kTr {h : Mh} {ss : List SesD} {t : List (List Int)} (hw : wid 4 t) (hn : t.length ≤ 9223372036854775807) (Q : Exit → X → Prop) (x : X) (hq : fTr h ss t Q x) : XWP Tryz.prog (.loop (Zar Tryz.f27 2)) Q x := by
  refine Zcm (sw := []) (V := ZhS (h.on t) ss) (VE := fun _ => ZhS (h.on t) ss) mixed (Zjo (h.on t) ss) (fun _ => Zjo (h.on t) ss) _ _ _ _ _ _ (fun i hl => ⟨hkA band bor [(71, sB lab)] [], ZaL (.cons Znh .nil), Zai rfl, fun N E h1 h2 => ?_⟩) ⟨hkA band bor [(71, sB lab)] [], ZaL (.cons Znh .nil), Zai rfl, fun N E h1 => ?_⟩ Q x hq
  · rw [rTr]
    have wi : IntKind.wrap .i64 ((i : Int) + 1) = ((i + 1 : Nat) : Int) := Zan (n := 1) (by omega)
    have a1 : isJ [IntKind.i64] (List.drop 1 ((mZ t).getD i [])) = true := Zav (j := 1) (n := 1) hw hl (by omega)
    simp only [Mh.on, Zaf, Int.ofNat_lt, hl, decide_true, cond_true, Int.natCast_nonneg, Bool.and_self, Int.toNat_natCast, a1, ZbL, true_and, wi] at h1 h2 ⊢
    unfold noEv at h1 h2
    generalize lab ((t.getD i []).getD 1 0) = u at h1 h2 ⊢
    cases u <;> simp only [cond_true, cond_false, Bool.not_true, Bool.not_false, forall_const, reduceCtorEq, false_implies] at h1 h2 ⊢ <;> first | exact h1 | exact h2 | exact h1 trivial | exact h2 trivial
  · rw [rTr]
    simp only [Mh.on, Zaf, Int.ofNat_lt, Nat.lt_irrefl, decide_false, cond_false, true_and]
    exact h1
theorem Zw0 (h : Mh) (t : List (List Int)) (K : DV → Prop) : (askL Tryz.prog [(68, ZcP), (69, sB clk), (56, sUp), (70, ZjR)] [(14, fTr h [] t)] Tryz.f27 [.agg (macL 0 (h.on t) [])] K) = (bif okA h.w0 h.w1 h.w2 h.w3 then bif !amay (toZ h.w0) (toZ h.w1) (toZ h.w2) (toZ h.w3) then K (DV.c (D.v (Value.bool false))) else bif !clk h.ce then K (DV.c (D.v (Value.bool false))) else bif decide (@Nat.cast Int _ (List.length (mZ t)) > 512) then K (DV.c (D.v (Value.bool false))) else bif !upto h.c0 (0) h.ce then K (DV.c (D.v (Value.bool false))) else bif !upto h.c1 (0) h.ce then K (DV.c (D.v (Value.bool false))) else bif !upto h.c2 (0) h.ce then K (DV.c (D.v (Value.bool false))) else bif !upto h.c3 (0) h.ce then K (DV.c (D.v (Value.bool false))) else stTr { w0 := h.w0, w1 := h.w1, w2 := h.w2, w3 := h.w3, c0 := h.c0, c1 := h.c1, c2 := h.c2, c3 := h.c3, ce := h.ce, tr := mZ t } [] false (0) = stTr { w0 := h.w0, w1 := h.w1, w2 := h.w2, w3 := h.w3, c0 := h.c0, c1 := h.c1, c2 := h.c2, c3 := h.c3, ce := h.ce, tr := mZ t } [] false (0) ∧ (∀ (i : Nat), firstAt (fun i => noEv (List.getD t i [])) (List.length t) i → K (DV.c (D.v (Value.bool false)))) ∧ (noneTo (fun i => noEv (List.getD t i [])) (List.length t) → K (DV.c (D.v (Value.bool true)))) else False) := by kernel_rfl
theorem ZvF (h : Mh) (s0 : SesD) (t : List (List Int)) (K : DV → Prop) : (askL Tryz.prog [(68, ZcP), (69, sB clk), (56, sUp), (70, ZjR)] [(14, fTr h [s0] t)] Tryz.f27 [.agg (macL 0 (h.on t) [s0])] K) = (bif okA h.w0 h.w1 h.w2 h.w3 then bif !amay (toZ h.w0) (toZ h.w1) (toZ h.w2) (toZ h.w3) then K (DV.c (D.v (Value.bool false))) else bif !clk h.ce then K (DV.c (D.v (Value.bool false))) else bif decide (@Nat.cast Int _ (List.length (mZ t)) > 512) then K (DV.c (D.v (Value.bool false))) else bif !upto h.c0 (0) h.ce then K (DV.c (D.v (Value.bool false))) else bif !upto h.c1 (0) h.ce then K (DV.c (D.v (Value.bool false))) else bif !upto h.c2 (0) h.ce then K (DV.c (D.v (Value.bool false))) else bif !upto h.c3 (0) h.ce then K (DV.c (D.v (Value.bool false))) else bif okA h.w0 h.w1 h.w2 h.w3 && ZaD s0 then bif !Zam h.w0 h.w1 h.w2 h.w3 s0 then K (DV.c (D.v (Value.bool false))) else stTr { w0 := h.w0, w1 := h.w1, w2 := h.w2, w3 := h.w3, c0 := h.c0, c1 := h.c1, c2 := h.c2, c3 := h.c3, ce := h.ce, tr := mZ t } [s0] false (0) = stTr { w0 := h.w0, w1 := h.w1, w2 := h.w2, w3 := h.w3, c0 := h.c0, c1 := h.c1, c2 := h.c2, c3 := h.c3, ce := h.ce, tr := mZ t } [s0] false (0) ∧ (∀ (i : Nat), firstAt (fun i => noEv (List.getD t i [])) (List.length t) i → K (DV.c (D.v (Value.bool false)))) ∧ (noneTo (fun i => noEv (List.getD t i [])) (List.length t) → K (DV.c (D.v (Value.bool true)))) else False else False) := by kernel_rfl
theorem ZvL (h : Mh) (s0 s1 : SesD) (t : List (List Int)) (K : DV → Prop) : (askL Tryz.prog [(68, ZcP), (69, sB clk), (56, sUp), (70, ZjR)] [(14, fTr h [s0, s1] t)] Tryz.f27 [.agg (macL 0 (h.on t) [s0, s1])] K) = (bif okA h.w0 h.w1 h.w2 h.w3 then bif !amay (toZ h.w0) (toZ h.w1) (toZ h.w2) (toZ h.w3) then K (DV.c (D.v (Value.bool false))) else bif !clk h.ce then K (DV.c (D.v (Value.bool false))) else bif decide (@Nat.cast Int _ (List.length (mZ t)) > 512) then K (DV.c (D.v (Value.bool false))) else bif !upto h.c0 (0) h.ce then K (DV.c (D.v (Value.bool false))) else bif !upto h.c1 (0) h.ce then K (DV.c (D.v (Value.bool false))) else bif !upto h.c2 (0) h.ce then K (DV.c (D.v (Value.bool false))) else bif !upto h.c3 (0) h.ce then K (DV.c (D.v (Value.bool false))) else bif okA h.w0 h.w1 h.w2 h.w3 && ZaD s0 then bif !Zam h.w0 h.w1 h.w2 h.w3 s0 then K (DV.c (D.v (Value.bool false))) else bif okA h.w0 h.w1 h.w2 h.w3 && ZaD s1 then bif !Zam h.w0 h.w1 h.w2 h.w3 s1 then K (DV.c (D.v (Value.bool false))) else bif decide (s1.id ≤ s0.id) then K (DV.c (D.v (Value.bool false))) else stTr { w0 := h.w0, w1 := h.w1, w2 := h.w2, w3 := h.w3, c0 := h.c0, c1 := h.c1, c2 := h.c2, c3 := h.c3, ce := h.ce, tr := mZ t } [s0, s1] false (0) = stTr { w0 := h.w0, w1 := h.w1, w2 := h.w2, w3 := h.w3, c0 := h.c0, c1 := h.c1, c2 := h.c2, c3 := h.c3, ce := h.ce, tr := mZ t } [s0, s1] false (0) ∧ (∀ (i : Nat), firstAt (fun i => noEv (List.getD t i [])) (List.length t) i → K (DV.c (D.v (Value.bool false)))) ∧ (noneTo (fun i => noEv (List.getD t i [])) (List.length t) → K (DV.c (D.v (Value.bool true)))) else False else False else False) := by kernel_rfl
theorem Zwj (h : Mh) (s0 s1 s2 : SesD) (t : List (List Int)) (K : DV → Prop) : (askL Tryz.prog [(68, ZcP), (69, sB clk), (56, sUp), (70, ZjR)] [(14, fTr h [s0, s1, s2] t)] Tryz.f27 [.agg (macL 0 (h.on t) [s0, s1, s2])] K) = (bif okA h.w0 h.w1 h.w2 h.w3 then bif !amay (toZ h.w0) (toZ h.w1) (toZ h.w2) (toZ h.w3) then K (DV.c (D.v (Value.bool false))) else bif !clk h.ce then K (DV.c (D.v (Value.bool false))) else bif decide (@Nat.cast Int _ (List.length (mZ t)) > 512) then K (DV.c (D.v (Value.bool false))) else bif !upto h.c0 (0) h.ce then K (DV.c (D.v (Value.bool false))) else bif !upto h.c1 (0) h.ce then K (DV.c (D.v (Value.bool false))) else bif !upto h.c2 (0) h.ce then K (DV.c (D.v (Value.bool false))) else bif !upto h.c3 (0) h.ce then K (DV.c (D.v (Value.bool false))) else bif okA h.w0 h.w1 h.w2 h.w3 && ZaD s0 then bif !Zam h.w0 h.w1 h.w2 h.w3 s0 then K (DV.c (D.v (Value.bool false))) else bif okA h.w0 h.w1 h.w2 h.w3 && ZaD s1 then bif !Zam h.w0 h.w1 h.w2 h.w3 s1 then K (DV.c (D.v (Value.bool false))) else bif decide (s1.id ≤ s0.id) then K (DV.c (D.v (Value.bool false))) else bif okA h.w0 h.w1 h.w2 h.w3 && ZaD s2 then bif !Zam h.w0 h.w1 h.w2 h.w3 s2 then K (DV.c (D.v (Value.bool false))) else bif decide (s2.id ≤ s1.id) then K (DV.c (D.v (Value.bool false))) else stTr { w0 := h.w0, w1 := h.w1, w2 := h.w2, w3 := h.w3, c0 := h.c0, c1 := h.c1, c2 := h.c2, c3 := h.c3, ce := h.ce, tr := mZ t } [s0, s1, s2] false (0) = stTr { w0 := h.w0, w1 := h.w1, w2 := h.w2, w3 := h.w3, c0 := h.c0, c1 := h.c1, c2 := h.c2, c3 := h.c3, ce := h.ce, tr := mZ t } [s0, s1, s2] false (0) ∧ (∀ (i : Nat), firstAt (fun i => noEv (List.getD t i [])) (List.length t) i → K (DV.c (D.v (Value.bool false)))) ∧ (noneTo (fun i => noEv (List.getD t i [])) (List.length t) → K (DV.c (D.v (Value.bool true)))) else False else False else False else False) := by kernel_rfl
theorem Zwd (h : Mh) (s0 s1 s2 s3 : SesD) (t : List (List Int)) (K : DV → Prop) : (askL Tryz.prog [(68, ZcP), (69, sB clk), (56, sUp), (70, ZjR)] [(14, fTr h [s0, s1, s2, s3] t)] Tryz.f27 [.agg (macL 0 (h.on t) [s0, s1, s2, s3])] K) = (bif okA h.w0 h.w1 h.w2 h.w3 then bif !amay (toZ h.w0) (toZ h.w1) (toZ h.w2) (toZ h.w3) then K (DV.c (D.v (Value.bool false))) else bif !clk h.ce then K (DV.c (D.v (Value.bool false))) else bif decide (@Nat.cast Int _ (List.length (mZ t)) > 512) then K (DV.c (D.v (Value.bool false))) else bif !upto h.c0 (0) h.ce then K (DV.c (D.v (Value.bool false))) else bif !upto h.c1 (0) h.ce then K (DV.c (D.v (Value.bool false))) else bif !upto h.c2 (0) h.ce then K (DV.c (D.v (Value.bool false))) else bif !upto h.c3 (0) h.ce then K (DV.c (D.v (Value.bool false))) else bif okA h.w0 h.w1 h.w2 h.w3 && ZaD s0 then bif !Zam h.w0 h.w1 h.w2 h.w3 s0 then K (DV.c (D.v (Value.bool false))) else bif okA h.w0 h.w1 h.w2 h.w3 && ZaD s1 then bif !Zam h.w0 h.w1 h.w2 h.w3 s1 then K (DV.c (D.v (Value.bool false))) else bif decide (s1.id ≤ s0.id) then K (DV.c (D.v (Value.bool false))) else bif okA h.w0 h.w1 h.w2 h.w3 && ZaD s2 then bif !Zam h.w0 h.w1 h.w2 h.w3 s2 then K (DV.c (D.v (Value.bool false))) else bif decide (s2.id ≤ s1.id) then K (DV.c (D.v (Value.bool false))) else bif okA h.w0 h.w1 h.w2 h.w3 && ZaD s3 then bif !Zam h.w0 h.w1 h.w2 h.w3 s3 then K (DV.c (D.v (Value.bool false))) else bif decide (s3.id ≤ s2.id) then K (DV.c (D.v (Value.bool false))) else stTr { w0 := h.w0, w1 := h.w1, w2 := h.w2, w3 := h.w3, c0 := h.c0, c1 := h.c1, c2 := h.c2, c3 := h.c3, ce := h.ce, tr := mZ t } [s0, s1, s2, s3] false (0) = stTr { w0 := h.w0, w1 := h.w1, w2 := h.w2, w3 := h.w3, c0 := h.c0, c1 := h.c1, c2 := h.c2, c3 := h.c3, ce := h.ce, tr := mZ t } [s0, s1, s2, s3] false (0) ∧ (∀ (i : Nat), firstAt (fun i => noEv (List.getD t i [])) (List.length t) i → K (DV.c (D.v (Value.bool false)))) ∧ (noneTo (fun i => noEv (List.getD t i [])) (List.length t) → K (DV.c (D.v (Value.bool true)))) else False else False else False else False else False) := by kernel_rfl
theorem ZvW (h : Mh) (ss : List SesD) (K : DV → Prop) : (askL Tryz.prog [(68, ZcP), (69, sB clk), (56, sUp)] [(4, fun _ _ => False)] Tryz.f27 [.agg (macL 0 h ss)] K) = (bif okA h.w0 h.w1 h.w2 h.w3 then bif !amay (toZ h.w0) (toZ h.w1) (toZ h.w2) (toZ h.w3) then K (DV.c (D.v (Value.bool false))) else bif !clk h.ce then K (DV.c (D.v (Value.bool false))) else bif decide (@Nat.cast Int _ (List.length (List.map (sesL (0)) ss)) > 4) then K (DV.c (D.v (Value.bool false))) else bif decide (@Nat.cast Int _ (List.length h.tr) > 512) then K (DV.c (D.v (Value.bool false))) else False else False) := by kernel_rfl
end

section
open Go Go.Proofs
theorem Zsa (a b e : Int) : decide (mx a b > e) = (decide (a > e) || decide (b > e)) := by
  rw [Bool.eq_iff_iff]
  simp only [Bool.or_eq_true, decide_eq_true_eq]
  unfold mx
  split <;> omega
theorem Zo2 (c0 c1 c2 c3 e : Int) : ((ck4 c0 c1 c2 c3 && clk e) && !decide (mx4 c0 c1 c2 c3 > e)) = (clk e && (upto c0 0 e && (upto c1 0 e && (upto c2 0 e && upto c3 0 e)))) := by
  unfold mx4
  rw [Zsa, Zsa, Zsa, Bool.eq_iff_iff]
  unfold ck4 clk upto
  simp only [Bool.and_eq_true, Bool.not_eq_true', Bool.or_eq_false_iff, decide_eq_true_eq, decide_eq_false_iff_not]
  omega
theorem Zkx (a b : Int) : (!decide (a ≥ b)) = !decide (b ≤ a) := rfl
theorem bN {p : Bool} {R : Prop} {q : Bool} (h : p = true → R) (h2 : p = false → q = false) : bif !p then (DV.c (.v (.bool false)) = B q) else R := by
  cases p
  · rw [h2 rfl]; rfl
  · exact h rfl
theorem bP {p : Bool} {R : Prop} {q : Bool} (h : p = false → R) (h2 : p = true → q = false) : bif p then (DV.c (.v (.bool false)) = B q) else R := by
  cases p
  · exact h rfl
  · rw [h2 rfl]; rfl
theorem bO {p : Bool} {R : Prop} (hp : p = true) (h : R) : bif p then R else False := by rw [hp]; exact h
theorem bT {T : Prop} {t : List (List Int)} {q : Bool} (hT : T) (h1 : t.any noEv = true → q = false) (h2 : t.any noEv = false → q = true) : T ∧ (∀ i : Nat, firstAt (fun i => noEv (List.getD t i [])) (List.length t) i → (DV.c (.v (.bool false)) = B q)) ∧ (noneTo (fun i => noEv (List.getD t i [])) (List.length t) → (DV.c (.v (.bool true)) = B q)) :=
  ⟨hT, fun i hi => by rw [h1 hi.any], fun hn => by rw [h2 hn.any]⟩
theorem ZuR {P : Program} {l : List (FuncId × Spec)} {fn : Func} {k1 k2 k3 : Nat} {s3 : LSum} (hn : (Zbc (Zao fn)).length = 3) (e1 : ZbK (Zar fn 0) = k1) (e2 : ZbK (Zar fn 1) = k2) (e3 : ZbK (Zar fn 2) = k3) (n1 : Nat.beq k3 k1 = false) (n2 : Nat.beq k3 k2 = false) (h3 : ∀ Q x, s3 Q x → XWP P (.loop (Zar fn 2)) Q x) : Zaz P (hkl l [(k3, s3)]) (Zao fn) :=
  Zds 3 hn fun i hi s hs Q x hq => by
    match i, hi with
    | 0, _ =>
      rw [e1] at hs
      have hs' : Zdw [(k3, s3)] k1 = some s := hs
      simp only [Zdw, n1] at hs'
      cases hs'
    | 1, _ =>
      rw [e2] at hs
      have hs' : Zdw [(k3, s3)] k2 = some s := hs
      simp only [Zdw, n2] at hs'
      cases hs'
    | 2, _ =>
      rw [e3] at hs
      have hs' : some s3 = some s := by simpa [Zdw, hkl, hkA, Zbn] using hs
      cases hs'
      exact h3 Q x hq
theorem ZgE {h : Mh} {ss : List SesD} {t : List (List Int)} (hw : wid 4 t) (hl : t.length ≤ 9223372036854775807) : Zaz Tryz.prog (hkl [(68, ZcP), (69, sB clk), (56, sUp), (70, ZjR)] [(14, fTr h ss t)]) (Zao Tryz.f27) :=
  ZuR rfl rfl rfl (by kernel_rfl) (by kernel_rfl) (by kernel_rfl) (fun Q x hq => kTr hw hl Q x hq)
theorem cRMt (h : Mh) (ss : List SesD) (t : List (List Int)) (hA : okA h.w0 h.w1 h.w2 h.w3 = true) (hw : wid 4 t) (hl : t.length ≤ 9223372036854775807) (hs : okSS ss = true) : CT Tryz.prog 27 [.agg (macL 0 (h.on t) ss)] (B (mmay (h.on t) ss)) := by
  have hq : ∀ s ∈ ss, ZaD s = true := List.all_eq_true.1 hs
  rcases ss with _ | ⟨s0, _ | ⟨s1, _ | ⟨s2, _ | ⟨s3, _ | ⟨s4, l⟩⟩⟩⟩⟩
  · 
    have key : mmay (h.on t) [] = (amay (toZ h.w0) (toZ h.w1) (toZ h.w2) (toZ h.w3) && (clk h.ce && (!decide (((mZ t).length : Int) > 512) && (upto h.c0 0 h.ce && (upto h.c1 0 h.ce && (upto h.c2 0 h.ce && (upto h.c3 0 h.ce && !t.any noEv))))))) := by
      show (amay (toZ h.w0) (toZ h.w1) (toZ h.w2) (toZ h.w3) && ((ck4 h.c0 h.c1 h.c2 h.c3 && clk h.ce) && (!decide (mx4 h.c0 h.c1 h.c2 h.c3 > h.ce) && (!decide ((([] : List SesD).length : Int) > 4) && (!decide (((mZ t).length : Int) > 512) && (ZdJ [] && (([] : List SesD).all (Zam h.w0 h.w1 h.w2 h.w3) && !(toZ (mZ t)).any noEv))))))) = _
      rw [Zdz, ← Bool.and_assoc (ck4 h.c0 h.c1 h.c2 h.c3 && clk h.ce), Zo2]
      simp only [ZdJ, List.all_cons, List.all_nil, Bool.and_true, Bool.true_and, Zkx, (by simp : (!decide ((([] : List SesD).length : Int) > 4)) = true)]
      try ac_rfl
    refine ZjU (m := [(14, fTr h [] t)]) (.cons Zf8 (.cons Zhf (.cons oUp2 (.cons Zp7 .nil)))) mixed (ZgE hw hl) Tryz.func27 rfl rfl rfl ?_
    rw [Zw0]
    refine ⟨?_⟩
    refine bO hA ?_
    refine bN (fun gA => ?_) (fun g => by rw [key, g]; rfl)
    refine bN (fun gC => ?_) (fun g => by rw [key, gA, g]; rfl)
    refine bP (fun gT => ?_) (fun g => by rw [key, gA, gC, g]; rfl)
    refine bN (fun gc0 => ?_) (fun g => by rw [key, gA, gC, gT, g]; simp)
    refine bN (fun gc1 => ?_) (fun g => by rw [key, gA, gC, gT, gc0, g]; simp)
    refine bN (fun gc2 => ?_) (fun g => by rw [key, gA, gC, gT, gc0, gc1, g]; simp)
    refine bN (fun gc3 => ?_) (fun g => by rw [key, gA, gC, gT, gc0, gc1, gc2, g]; simp)
    exact bT rfl (fun g => by rw [key, gA, gC, gT, gc0, gc1, gc2, gc3, g]; rfl) (fun g => by rw [key, gA, gC, gT, gc0, gc1, gc2, gc3, g]; rfl)
  · 
    have q0 : ZaD s0 = true := hq s0 (by simp)
    have key : mmay (h.on t) [s0] = (amay (toZ h.w0) (toZ h.w1) (toZ h.w2) (toZ h.w3) && (clk h.ce && (!decide (((mZ t).length : Int) > 512) && (upto h.c0 0 h.ce && (upto h.c1 0 h.ce && (upto h.c2 0 h.ce && (upto h.c3 0 h.ce && (Zam h.w0 h.w1 h.w2 h.w3 s0 && !t.any noEv)))))))) := by
      show (amay (toZ h.w0) (toZ h.w1) (toZ h.w2) (toZ h.w3) && ((ck4 h.c0 h.c1 h.c2 h.c3 && clk h.ce) && (!decide (mx4 h.c0 h.c1 h.c2 h.c3 > h.ce) && (!decide ((([s0] : List SesD).length : Int) > 4) && (!decide (((mZ t).length : Int) > 512) && (ZdJ [s0] && (([s0] : List SesD).all (Zam h.w0 h.w1 h.w2 h.w3) && !(toZ (mZ t)).any noEv))))))) = _
      rw [Zdz, ← Bool.and_assoc (ck4 h.c0 h.c1 h.c2 h.c3 && clk h.ce), Zo2]
      simp only [ZdJ, List.all_cons, List.all_nil, Bool.and_true, Bool.true_and, Zkx, (by simp : (!decide ((([s0] : List SesD).length : Int) > 4)) = true)]
      try ac_rfl
    refine ZjU (m := [(14, fTr h [s0] t)]) (.cons Zf8 (.cons Zhf (.cons oUp2 (.cons Zp7 .nil)))) mixed (ZgE hw hl) Tryz.func27 rfl rfl rfl ?_
    rw [ZvF]
    refine ⟨?_⟩
    refine bO hA ?_
    refine bN (fun gA => ?_) (fun g => by rw [key, g]; rfl)
    refine bN (fun gC => ?_) (fun g => by rw [key, gA, g]; rfl)
    refine bP (fun gT => ?_) (fun g => by rw [key, gA, gC, g]; rfl)
    refine bN (fun gc0 => ?_) (fun g => by rw [key, gA, gC, gT, g]; simp)
    refine bN (fun gc1 => ?_) (fun g => by rw [key, gA, gC, gT, gc0, g]; simp)
    refine bN (fun gc2 => ?_) (fun g => by rw [key, gA, gC, gT, gc0, gc1, g]; simp)
    refine bN (fun gc3 => ?_) (fun g => by rw [key, gA, gC, gT, gc0, gc1, gc2, g]; simp)
    refine bO (by rw [hA, q0]; rfl) ?_
    refine bN (fun gs0 => ?_) (fun g => by rw [key, gA, gC, gT, gc0, gc1, gc2, gc3, g]; simp)
    exact bT rfl (fun g => by rw [key, gA, gC, gT, gc0, gc1, gc2, gc3, gs0, g]; rfl) (fun g => by rw [key, gA, gC, gT, gc0, gc1, gc2, gc3, gs0, g]; rfl)
  · 
    have q0 : ZaD s0 = true := hq s0 (by simp)
    have q1 : ZaD s1 = true := hq s1 (by simp)
    have key : mmay (h.on t) [s0, s1] = (amay (toZ h.w0) (toZ h.w1) (toZ h.w2) (toZ h.w3) && (clk h.ce && (!decide (((mZ t).length : Int) > 512) && (upto h.c0 0 h.ce && (upto h.c1 0 h.ce && (upto h.c2 0 h.ce && (upto h.c3 0 h.ce && (Zam h.w0 h.w1 h.w2 h.w3 s0 && (Zam h.w0 h.w1 h.w2 h.w3 s1 && (!decide (s1.id ≤ s0.id) && !t.any noEv)))))))))) := by
      show (amay (toZ h.w0) (toZ h.w1) (toZ h.w2) (toZ h.w3) && ((ck4 h.c0 h.c1 h.c2 h.c3 && clk h.ce) && (!decide (mx4 h.c0 h.c1 h.c2 h.c3 > h.ce) && (!decide ((([s0, s1] : List SesD).length : Int) > 4) && (!decide (((mZ t).length : Int) > 512) && (ZdJ [s0, s1] && (([s0, s1] : List SesD).all (Zam h.w0 h.w1 h.w2 h.w3) && !(toZ (mZ t)).any noEv))))))) = _
      rw [Zdz, ← Bool.and_assoc (ck4 h.c0 h.c1 h.c2 h.c3 && clk h.ce), Zo2]
      simp only [ZdJ, List.all_cons, List.all_nil, Bool.and_true, Bool.true_and, Zkx, (by simp : (!decide ((([s0, s1] : List SesD).length : Int) > 4)) = true)]
      try ac_rfl
    refine ZjU (m := [(14, fTr h [s0, s1] t)]) (.cons Zf8 (.cons Zhf (.cons oUp2 (.cons Zp7 .nil)))) mixed (ZgE hw hl) Tryz.func27 rfl rfl rfl ?_
    rw [ZvL]
    refine ⟨?_⟩
    refine bO hA ?_
    refine bN (fun gA => ?_) (fun g => by rw [key, g]; rfl)
    refine bN (fun gC => ?_) (fun g => by rw [key, gA, g]; rfl)
    refine bP (fun gT => ?_) (fun g => by rw [key, gA, gC, g]; rfl)
    refine bN (fun gc0 => ?_) (fun g => by rw [key, gA, gC, gT, g]; simp)
    refine bN (fun gc1 => ?_) (fun g => by rw [key, gA, gC, gT, gc0, g]; simp)
    refine bN (fun gc2 => ?_) (fun g => by rw [key, gA, gC, gT, gc0, gc1, g]; simp)
    refine bN (fun gc3 => ?_) (fun g => by rw [key, gA, gC, gT, gc0, gc1, gc2, g]; simp)
    refine bO (by rw [hA, q0]; rfl) ?_
    refine bN (fun gs0 => ?_) (fun g => by rw [key, gA, gC, gT, gc0, gc1, gc2, gc3, g]; simp)
    refine bO (by rw [hA, q1]; rfl) ?_
    refine bN (fun gs1 => ?_) (fun g => by rw [key, gA, gC, gT, gc0, gc1, gc2, gc3, gs0, g]; simp)
    refine bP (fun gi1 => ?_) (fun g => by rw [key, gA, gC, gT, gc0, gc1, gc2, gc3, gs0, gs1, g]; simp)
    exact bT rfl (fun g => by rw [key, gA, gC, gT, gc0, gc1, gc2, gc3, gs0, gs1, gi1, g]; rfl) (fun g => by rw [key, gA, gC, gT, gc0, gc1, gc2, gc3, gs0, gs1, gi1, g]; rfl)
  · 
    have q0 : ZaD s0 = true := hq s0 (by simp)
    have q1 : ZaD s1 = true := hq s1 (by simp)
    have q2 : ZaD s2 = true := hq s2 (by simp)
    have key : mmay (h.on t) [s0, s1, s2] = (amay (toZ h.w0) (toZ h.w1) (toZ h.w2) (toZ h.w3) && (clk h.ce && (!decide (((mZ t).length : Int) > 512) && (upto h.c0 0 h.ce && (upto h.c1 0 h.ce && (upto h.c2 0 h.ce && (upto h.c3 0 h.ce && (Zam h.w0 h.w1 h.w2 h.w3 s0 && (Zam h.w0 h.w1 h.w2 h.w3 s1 && (!decide (s1.id ≤ s0.id) && (Zam h.w0 h.w1 h.w2 h.w3 s2 && (!decide (s2.id ≤ s1.id) && !t.any noEv)))))))))))) := by
      show (amay (toZ h.w0) (toZ h.w1) (toZ h.w2) (toZ h.w3) && ((ck4 h.c0 h.c1 h.c2 h.c3 && clk h.ce) && (!decide (mx4 h.c0 h.c1 h.c2 h.c3 > h.ce) && (!decide ((([s0, s1, s2] : List SesD).length : Int) > 4) && (!decide (((mZ t).length : Int) > 512) && (ZdJ [s0, s1, s2] && (([s0, s1, s2] : List SesD).all (Zam h.w0 h.w1 h.w2 h.w3) && !(toZ (mZ t)).any noEv))))))) = _
      rw [Zdz, ← Bool.and_assoc (ck4 h.c0 h.c1 h.c2 h.c3 && clk h.ce), Zo2]
      simp only [ZdJ, List.all_cons, List.all_nil, Bool.and_true, Bool.true_and, Zkx, (by simp : (!decide ((([s0, s1, s2] : List SesD).length : Int) > 4)) = true)]
      try ac_rfl
    refine ZjU (m := [(14, fTr h [s0, s1, s2] t)]) (.cons Zf8 (.cons Zhf (.cons oUp2 (.cons Zp7 .nil)))) mixed (ZgE hw hl) Tryz.func27 rfl rfl rfl ?_
    rw [Zwj]
    refine ⟨?_⟩
    refine bO hA ?_
    refine bN (fun gA => ?_) (fun g => by rw [key, g]; rfl)
    refine bN (fun gC => ?_) (fun g => by rw [key, gA, g]; rfl)
    refine bP (fun gT => ?_) (fun g => by rw [key, gA, gC, g]; rfl)
    refine bN (fun gc0 => ?_) (fun g => by rw [key, gA, gC, gT, g]; simp)
    refine bN (fun gc1 => ?_) (fun g => by rw [key, gA, gC, gT, gc0, g]; simp)
    refine bN (fun gc2 => ?_) (fun g => by rw [key, gA, gC, gT, gc0, gc1, g]; simp)
    refine bN (fun gc3 => ?_) (fun g => by rw [key, gA, gC, gT, gc0, gc1, gc2, g]; simp)
    refine bO (by rw [hA, q0]; rfl) ?_
    refine bN (fun gs0 => ?_) (fun g => by rw [key, gA, gC, gT, gc0, gc1, gc2, gc3, g]; simp)
    refine bO (by rw [hA, q1]; rfl) ?_
    refine bN (fun gs1 => ?_) (fun g => by rw [key, gA, gC, gT, gc0, gc1, gc2, gc3, gs0, g]; simp)
    refine bP (fun gi1 => ?_) (fun g => by rw [key, gA, gC, gT, gc0, gc1, gc2, gc3, gs0, gs1, g]; simp)
    refine bO (by rw [hA, q2]; rfl) ?_
    refine bN (fun gs2 => ?_) (fun g => by rw [key, gA, gC, gT, gc0, gc1, gc2, gc3, gs0, gs1, gi1, g]; simp)
    refine bP (fun gi2 => ?_) (fun g => by rw [key, gA, gC, gT, gc0, gc1, gc2, gc3, gs0, gs1, gi1, gs2, g]; simp)
    exact bT rfl (fun g => by rw [key, gA, gC, gT, gc0, gc1, gc2, gc3, gs0, gs1, gi1, gs2, gi2, g]; rfl) (fun g => by rw [key, gA, gC, gT, gc0, gc1, gc2, gc3, gs0, gs1, gi1, gs2, gi2, g]; rfl)
  · 
    have q0 : ZaD s0 = true := hq s0 (by simp)
    have q1 : ZaD s1 = true := hq s1 (by simp)
    have q2 : ZaD s2 = true := hq s2 (by simp)
    have q3 : ZaD s3 = true := hq s3 (by simp)
    have key : mmay (h.on t) [s0, s1, s2, s3] = (amay (toZ h.w0) (toZ h.w1) (toZ h.w2) (toZ h.w3) && (clk h.ce && (!decide (((mZ t).length : Int) > 512) && (upto h.c0 0 h.ce && (upto h.c1 0 h.ce && (upto h.c2 0 h.ce && (upto h.c3 0 h.ce && (Zam h.w0 h.w1 h.w2 h.w3 s0 && (Zam h.w0 h.w1 h.w2 h.w3 s1 && (!decide (s1.id ≤ s0.id) && (Zam h.w0 h.w1 h.w2 h.w3 s2 && (!decide (s2.id ≤ s1.id) && (Zam h.w0 h.w1 h.w2 h.w3 s3 && (!decide (s3.id ≤ s2.id) && !t.any noEv)))))))))))))) := by
      show (amay (toZ h.w0) (toZ h.w1) (toZ h.w2) (toZ h.w3) && ((ck4 h.c0 h.c1 h.c2 h.c3 && clk h.ce) && (!decide (mx4 h.c0 h.c1 h.c2 h.c3 > h.ce) && (!decide ((([s0, s1, s2, s3] : List SesD).length : Int) > 4) && (!decide (((mZ t).length : Int) > 512) && (ZdJ [s0, s1, s2, s3] && (([s0, s1, s2, s3] : List SesD).all (Zam h.w0 h.w1 h.w2 h.w3) && !(toZ (mZ t)).any noEv))))))) = _
      rw [Zdz, ← Bool.and_assoc (ck4 h.c0 h.c1 h.c2 h.c3 && clk h.ce), Zo2]
      simp only [ZdJ, List.all_cons, List.all_nil, Bool.and_true, Bool.true_and, Zkx, (by simp : (!decide ((([s0, s1, s2, s3] : List SesD).length : Int) > 4)) = true)]
      try ac_rfl
    refine ZjU (m := [(14, fTr h [s0, s1, s2, s3] t)]) (.cons Zf8 (.cons Zhf (.cons oUp2 (.cons Zp7 .nil)))) mixed (ZgE hw hl) Tryz.func27 rfl rfl rfl ?_
    rw [Zwd]
    refine ⟨?_⟩
    refine bO hA ?_
    refine bN (fun gA => ?_) (fun g => by rw [key, g]; rfl)
    refine bN (fun gC => ?_) (fun g => by rw [key, gA, g]; rfl)
    refine bP (fun gT => ?_) (fun g => by rw [key, gA, gC, g]; rfl)
    refine bN (fun gc0 => ?_) (fun g => by rw [key, gA, gC, gT, g]; simp)
    refine bN (fun gc1 => ?_) (fun g => by rw [key, gA, gC, gT, gc0, g]; simp)
    refine bN (fun gc2 => ?_) (fun g => by rw [key, gA, gC, gT, gc0, gc1, g]; simp)
    refine bN (fun gc3 => ?_) (fun g => by rw [key, gA, gC, gT, gc0, gc1, gc2, g]; simp)
    refine bO (by rw [hA, q0]; rfl) ?_
    refine bN (fun gs0 => ?_) (fun g => by rw [key, gA, gC, gT, gc0, gc1, gc2, gc3, g]; simp)
    refine bO (by rw [hA, q1]; rfl) ?_
    refine bN (fun gs1 => ?_) (fun g => by rw [key, gA, gC, gT, gc0, gc1, gc2, gc3, gs0, g]; simp)
    refine bP (fun gi1 => ?_) (fun g => by rw [key, gA, gC, gT, gc0, gc1, gc2, gc3, gs0, gs1, g]; simp)
    refine bO (by rw [hA, q2]; rfl) ?_
    refine bN (fun gs2 => ?_) (fun g => by rw [key, gA, gC, gT, gc0, gc1, gc2, gc3, gs0, gs1, gi1, g]; simp)
    refine bP (fun gi2 => ?_) (fun g => by rw [key, gA, gC, gT, gc0, gc1, gc2, gc3, gs0, gs1, gi1, gs2, g]; simp)
    refine bO (by rw [hA, q3]; rfl) ?_
    refine bN (fun gs3 => ?_) (fun g => by rw [key, gA, gC, gT, gc0, gc1, gc2, gc3, gs0, gs1, gi1, gs2, gi2, g]; simp)
    refine bP (fun gi3 => ?_) (fun g => by rw [key, gA, gC, gT, gc0, gc1, gc2, gc3, gs0, gs1, gi1, gs2, gi2, gs3, g]; simp)
    exact bT rfl (fun g => by rw [key, gA, gC, gT, gc0, gc1, gc2, gc3, gs0, gs1, gi1, gs2, gi2, gs3, gi3, g]; rfl) (fun g => by rw [key, gA, gC, gT, gc0, gc1, gc2, gc3, gs0, gs1, gi1, gs2, gi2, gs3, gi3, g]; rfl)
  · refine ZjU (l := [(68, ZcP), (69, sB clk), (56, sUp)]) (m := [(4, fun _ _ => False)]) (.cons Zf8 (.cons Zhf (.cons oUp2 .nil))) mixed Zm0 Tryz.func27 rfl rfl rfl ?_
    rw [ZvW]
    refine ⟨?_⟩
    have h6 : mmay (h.on t) (s0 :: s1 :: s2 :: s3 :: s4 :: l) = false := by
      unfold mmay
      rw [(by simp; omega : (!decide (((s0 :: s1 :: s2 :: s3 :: s4 :: l).length : Int) > 4)) = false)]
      simp
    rw [h6]
    refine bO hA (bN (fun _ => bN (fun _ => bP (fun g => ?_) fun _ => rfl) fun _ => rfl) fun _ => rfl)
    simp at g
    omega
theorem cRM (h : Mh) (ss : List SesD) (hok : okM h ss = true) : CT Tryz.prog 27 [.agg (macL 0 h ss)] (B (mmay h ss)) := by
  obtain ⟨h1, h2, h3⟩ := ZbP hok
  obtain ⟨e, hw, hl⟩ := Zah h2
  have := cRMt h ss (toZ h.tr) h1 hw (by rw [Zal]; exact hl) h3
  have eh : h.on (toZ h.tr) = h := by unfold Mh.on; rw [← e]
  rwa [eh] at this
def sRMm : Spec := fun ds Q => match ds with
  | [d] => macA d fun h ss => cond (okM h ss) (Q (B (mmay h ss))) False
  | _ => False
theorem oRMm : Zad Tryz.prog 27 sRMm := o_al Tryz.func27 (by kernel_rfl) rfl fun ds Q h => by
  unfold sRMm at h; split at h
  · obtain ⟨m, ss, h, r⟩ := ZcK h
    obtain ⟨h1, h2⟩ := Zag h
    exact ⟨_, _, .cons r .nil, cRM m ss h1, rfl, rfl, h2⟩
  · exact h.elim
end

section
open Go Go.Proofs
theorem Zkt {R : List (List D)} (h : smR 4398046510977 R = true) : allV R = true ∧ decide (R.length * 32 ≤ 140737488355328) = true ∧ decide (R.length ≤ 9223372036854775807) = true ∧ (R.all fun r => r.all D.keeps) = true := by
  obtain ⟨a, b, c⟩ := Zac h
  exact ⟨a, decide_eq_true (by omega), decide_eq_true (by omega), c⟩
theorem Zmr {R : List (List D)} (h : smR 5864062014635 R = true) : allV R = true ∧ decide (R.length * 24 ≤ 140737488355328) = true ∧ decide (R.length ≤ 9223372036854775807) = true ∧ (R.all fun r => r.all D.keeps) = true := by
  obtain ⟨a, b, c⟩ := Zac h
  exact ⟨a, decide_eq_true (by omega), decide_eq_true (by omega), c⟩
theorem Zvz (s : SesD) (K : DV → Prop) : (ask Tryz.prog [] Tryz.f98 [.agg (sesL 0 s)] K) = (bif allV s.pg then bif true && (decide ((0 + List.length s.pg) * 32 ≤ 140737488355328) && decide (0 + List.length s.pg ≤ 9223372036854775807)) then bif allV s.rd then bif true && (decide ((0 + List.length s.rd) * 24 ≤ 140737488355328) && decide (0 + List.length s.rd ≤ 9223372036854775807)) then bif allV s.wt then bif true && (decide ((0 + List.length s.wt) * 24 ≤ 140737488355328) && decide (0 + List.length s.wt ≤ 9223372036854775807)) then bif decide (0 + List.length s.pg ≤ List.length ([] ++ s.pg)) && List.all ([] ++ s.pg) fun r => List.all r D.keeps then bif decide (0 + List.length s.rd ≤ List.length ([] ++ s.rd)) && List.all ([] ++ s.rd) fun r => List.all r D.keeps then bif decide (0 + List.length s.wt ≤ List.length ([] ++ s.wt)) && List.all ([] ++ s.wt) fun r => List.all r D.keeps then K (DV.agg [vN s.id, vN s.lb, vN s.cl, D.s (1) (4) (List.take (0 + List.length s.pg) ([] ++ s.pg)) (List.take (0 + List.length s.pg - (0 + List.length s.pg)) (List.drop (0 + List.length s.pg) ([] ++ s.pg))), vN s.st, vN s.pc, vN s.r0, vN s.r1, vN s.r2, vN s.r3, D.s (1) (3) (List.take (0 + List.length s.rd) ([] ++ s.rd)) (List.take (0 + List.length s.rd - (0 + List.length s.rd)) (List.drop (0 + List.length s.rd) ([] ++ s.rd))), D.s (1) (3) (List.take (0 + List.length s.wt) ([] ++ s.wt)) (List.take (0 + List.length s.wt - (0 + List.length s.wt)) (List.drop (0 + List.length s.wt) ([] ++ s.wt))), vN s.at', vN s.sp, vN s.tr, vN s.rs, vN s.to]) else False else False else False else False else False else False else False else False else False) := by kernel_rfl
theorem Zv1 (s : SesD) (hs : smS s = true) : CT Tryz.prog 98 [.agg (sesL 0 s)] (.agg (sesL 1 s)) := by
  obtain ⟨h1, h2, h3⟩ := ZaK hs
  obtain ⟨a1, a2, a3, a4⟩ := Zkt h1
  obtain ⟨b1, b2, b3, b4⟩ := Zmr h2
  obtain ⟨c1, c2, c3, c4⟩ := Zmr h3
  refine ct_s .nil mixed Tryz.func98 rfl rfl rfl ?_
  rw [Zvz]
  refine ⟨?_⟩
  simp only [a1, a2, a3, a4, b1, b2, b3, b4, c1, c2, c3, c4, Nat.zero_add, List.nil_append, List.append_nil, Nat.le_refl, decide_true, Bool.and_self, Bool.true_and, cond_true, ZbN, Nat.add_zero, Nat.sub_self, List.take_zero]
  rfl
theorem ZpU : Zad Tryz.prog 98 ZcH := o_al Tryz.func98 (by kernel_rfl) rfl fun ds Q h => by
  unfold ZcH at h; split at h
  · obtain ⟨s, h, r⟩ := ZbQ h
    obtain ⟨h1, h2⟩ := Zag h
    exact ⟨_, _, .cons r .nil, Zv1 s h1, ZfW h1, rfl, h2⟩
  · exact h.elim
theorem Zwo (s : SesD) (K : DV → Prop) : (ask Tryz.prog [] Tryz.f47 [.agg (sesL 0 s)] K) = (bif allV s.pg then bif true && (decide ((0 + List.length s.pg) * 32 ≤ 140737488355328) && decide (0 + List.length s.pg ≤ 9223372036854775807)) then bif allV s.rd then bif true && (decide ((0 + List.length s.rd) * 24 ≤ 140737488355328) && decide (0 + List.length s.rd ≤ 9223372036854775807)) then bif allV s.wt then bif true && (decide ((0 + List.length s.wt) * 24 ≤ 140737488355328) && decide (0 + List.length s.wt ≤ 9223372036854775807)) then bif decide (0 + List.length s.pg ≤ List.length ([] ++ s.pg)) && List.all ([] ++ s.pg) fun r => List.all r D.keeps then bif decide (0 + List.length s.rd ≤ List.length ([] ++ s.rd)) && List.all ([] ++ s.rd) fun r => List.all r D.keeps then bif decide (0 + List.length s.wt ≤ List.length ([] ++ s.wt)) && List.all ([] ++ s.wt) fun r => List.all r D.keeps then K (DV.agg [vN s.id, vN s.lb, vN s.cl, D.s (1) (4) (List.take (0 + List.length s.pg) ([] ++ s.pg)) (List.take (0 + List.length s.pg - (0 + List.length s.pg)) (List.drop (0 + List.length s.pg) ([] ++ s.pg))), vN s.st, vN s.pc, vN s.r0, vN s.r1, vN s.r2, vN s.r3, D.s (1) (3) (List.take (0 + List.length s.rd) ([] ++ s.rd)) (List.take (0 + List.length s.rd - (0 + List.length s.rd)) (List.drop (0 + List.length s.rd) ([] ++ s.rd))), D.s (1) (3) (List.take (0 + List.length s.wt) ([] ++ s.wt)) (List.take (0 + List.length s.wt - (0 + List.length s.wt)) (List.drop (0 + List.length s.wt) ([] ++ s.wt))), vN s.at', vN s.sp, vN s.tr, vN s.rs, vN s.to]) else False else False else False else False else False else False else False else False else False) := by kernel_rfl
theorem Zwx (s : SesD) (hs : smS s = true) : CT Tryz.prog 47 [.agg (sesL 0 s)] (.agg (sesL 1 s)) := by
  obtain ⟨h1, h2, h3⟩ := ZaK hs
  obtain ⟨a1, a2, a3, a4⟩ := Zkt h1
  obtain ⟨b1, b2, b3, b4⟩ := Zmr h2
  obtain ⟨c1, c2, c3, c4⟩ := Zmr h3
  refine ct_s .nil mixed Tryz.func47 rfl rfl rfl ?_
  rw [Zwo]
  refine ⟨?_⟩
  simp only [a1, a2, a3, a4, b1, b2, b3, b4, c1, c2, c3, c4, Nat.zero_add, List.nil_append, List.append_nil, Nat.le_refl, decide_true, Bool.and_self, Bool.true_and, cond_true, ZbN, Nat.add_zero, Nat.sub_self, List.take_zero]
  rfl
theorem Zs0 : Zad Tryz.prog 47 ZcH := o_al Tryz.func47 (by kernel_rfl) rfl fun ds Q h => by
  unfold ZcH at h; split at h
  · obtain ⟨s, h, r⟩ := ZbQ h
    obtain ⟨h1, h2⟩ := Zag h
    exact ⟨_, _, .cons r .nil, Zwx s h1, ZfW h1, rfl, h2⟩
  · exact h.elim
-- RSUB bif decide \(List\.length ([a-z0-9.]+) ≤ List\.length \(\1 \+\+ \[\]\)\) && List\.all \(\1 \+\+ \[\]\) fun r => List\.all r D\.keeps then =>> bif kX \1 then
-- RSUB List\.take \(List\.length ([a-z0-9.]+) \+ 0 - List\.length \1\) \(List\.drop \(List\.length \1\) \(\1 \+\+ \[\]\)\) =>> tD \1
-- RSUB List\.take \(List\.length ([a-z0-9.]+)\) \(\1 \+\+ \[\]\) =>> tC \1
-- RSUB \[vN ([a-z0-9]+)\.id, vN \1\.lb, vN \1\.cl, D\.s \(1\) \(4\) \(tC \1\.pg\) \(tD \1\.pg\), vN \1\.st, vN \1\.pc, vN \1\.r0, vN \1\.r1, vN \1\.r2, vN \1\.r3, D\.s \(1\) \(3\) \(tC \1\.rd\) \(tD \1\.rd\), D\.s \(1\) \(3\) \(tC \1\.wt\) \(tD \1\.wt\), vN \1\.at', vN \1\.sp, vN \1\.tr, vN \1\.rs, vN \1\.to\] =>> (sTt \1)
theorem Zu1 (h : Mh) (K : DV → Prop) : (askH Tryz.prog (hkM [(97, ZbT), (98, ZcH)] [] []) Tryz.f58 [.agg (macL 0 h [])] K) = (bif okC4 h.w0 h.w1 h.w2 h.w3 then bif allV h.tr then bif true && (decide ((0 + List.length h.tr) * 32 ≤ 140737488355328) && decide (0 + List.length h.tr ≤ 9223372036854775807)) then bif kX h.w0 then bif kX h.w1 then bif kX h.w2 then bif kX h.w3 then bif decide (0 + List.length h.tr ≤ List.length ([] ++ h.tr)) && List.all ([] ++ h.tr) fun r => List.all r D.keeps then K (DV.agg [D.s (1) (3) (tC h.w0) (tD h.w0), D.s (1) (3) (tC h.w1) (tD h.w1), D.s (1) (3) (tC h.w2) (tD h.w2), D.s (1) (3) (tC h.w3) (tD h.w3), vN h.c0, vN h.c1, vN h.c2, vN h.c3, vN h.ce, nilV, D.s (1) (4) (List.take (0 + List.length h.tr) ([] ++ h.tr)) (List.take (0 + List.length h.tr - (0 + List.length h.tr)) (List.drop (0 + List.length h.tr) ([] ++ h.tr)))]) else False else False else False else False else False else False else False else False) := by kernel_rfl
theorem ZuI (h : Mh) (s0 : SesD) (K : DV → Prop) : (askH Tryz.prog (hkM [(97, ZbT), (98, ZcH)] [] []) Tryz.f58 [.agg (macL 0 h [s0])] K) = (bif okC4 h.w0 h.w1 h.w2 h.w3 then bif smS s0 then bif allV h.tr then bif true && (decide ((0 + List.length h.tr) * 32 ≤ 140737488355328) && decide (0 + List.length h.tr ≤ 9223372036854775807)) then bif kX h.w0 then bif kX h.w1 then bif kX h.w2 then bif kX h.w3 then bif kX s0.pg then bif kX s0.rd then bif kX s0.wt then bif decide (0 + List.length h.tr ≤ List.length ([] ++ h.tr)) && List.all ([] ++ h.tr) fun r => List.all r D.keeps then K (DV.agg [D.s (1) (3) (tC h.w0) (tD h.w0), D.s (1) (3) (tC h.w1) (tD h.w1), D.s (1) (3) (tC h.w2) (tD h.w2), D.s (1) (3) (tC h.w3) (tD h.w3), vN h.c0, vN h.c1, vN h.c2, vN h.c3, vN h.ce, D.s (1) (17) [(sTt s0)] [], D.s (1) (4) (List.take (0 + List.length h.tr) ([] ++ h.tr)) (List.take (0 + List.length h.tr - (0 + List.length h.tr)) (List.drop (0 + List.length h.tr) ([] ++ h.tr)))]) else False else False else False else False else False else False else False else False else False else False else False else False) := by kernel_rfl
theorem ZuG (h : Mh) (s0 s1 : SesD) (K : DV → Prop) : (askH Tryz.prog (hkM [(97, ZbT), (98, ZcH)] [] []) Tryz.f58 [.agg (macL 0 h [s0, s1])] K) = (bif okC4 h.w0 h.w1 h.w2 h.w3 then bif smS s0 then bif smS s1 then bif allV h.tr then bif true && (decide ((0 + List.length h.tr) * 32 ≤ 140737488355328) && decide (0 + List.length h.tr ≤ 9223372036854775807)) then bif kX h.w0 then bif kX h.w1 then bif kX h.w2 then bif kX h.w3 then bif kX s0.pg then bif kX s0.rd then bif kX s0.wt then bif kX s1.pg then bif kX s1.rd then bif kX s1.wt then bif decide (0 + List.length h.tr ≤ List.length ([] ++ h.tr)) && List.all ([] ++ h.tr) fun r => List.all r D.keeps then K (DV.agg [D.s (1) (3) (tC h.w0) (tD h.w0), D.s (1) (3) (tC h.w1) (tD h.w1), D.s (1) (3) (tC h.w2) (tD h.w2), D.s (1) (3) (tC h.w3) (tD h.w3), vN h.c0, vN h.c1, vN h.c2, vN h.c3, vN h.ce, D.s (1) (17) [(sTt s0), (sTt s1)] [], D.s (1) (4) (List.take (0 + List.length h.tr) ([] ++ h.tr)) (List.take (0 + List.length h.tr - (0 + List.length h.tr)) (List.drop (0 + List.length h.tr) ([] ++ h.tr)))]) else False else False else False else False else False else False else False else False else False else False else False else False else False else False else False else False) := by kernel_rfl
theorem Zva (h : Mh) (s0 s1 s2 : SesD) (K : DV → Prop) : (askH Tryz.prog (hkM [(97, ZbT), (98, ZcH)] [] []) Tryz.f58 [.agg (macL 0 h [s0, s1, s2])] K) = (bif okC4 h.w0 h.w1 h.w2 h.w3 then bif smS s0 then bif smS s1 then bif smS s2 then bif allV h.tr then bif true && (decide ((0 + List.length h.tr) * 32 ≤ 140737488355328) && decide (0 + List.length h.tr ≤ 9223372036854775807)) then bif kX h.w0 then bif kX h.w1 then bif kX h.w2 then bif kX h.w3 then bif kX s0.pg then bif kX s0.rd then bif kX s0.wt then bif kX s1.pg then bif kX s1.rd then bif kX s1.wt then bif kX s2.pg then bif kX s2.rd then bif kX s2.wt then bif decide (0 + List.length h.tr ≤ List.length ([] ++ h.tr)) && List.all ([] ++ h.tr) fun r => List.all r D.keeps then K (DV.agg [D.s (1) (3) (tC h.w0) (tD h.w0), D.s (1) (3) (tC h.w1) (tD h.w1), D.s (1) (3) (tC h.w2) (tD h.w2), D.s (1) (3) (tC h.w3) (tD h.w3), vN h.c0, vN h.c1, vN h.c2, vN h.c3, vN h.ce, D.s (1) (17) [(sTt s0), (sTt s1), (sTt s2)] [], D.s (1) (4) (List.take (0 + List.length h.tr) ([] ++ h.tr)) (List.take (0 + List.length h.tr - (0 + List.length h.tr)) (List.drop (0 + List.length h.tr) ([] ++ h.tr)))]) else False else False else False else False else False else False else False else False else False else False else False else False else False else False else False else False else False else False else False else False) := by kernel_rfl
theorem Zuv (h : Mh) (s0 s1 s2 s3 : SesD) (K : DV → Prop) : (askH Tryz.prog (hkM [(97, ZbT), (98, ZcH)] [] []) Tryz.f58 [.agg (macL 0 h [s0, s1, s2, s3])] K) = (bif okC4 h.w0 h.w1 h.w2 h.w3 then bif smS s0 then bif smS s1 then bif smS s2 then bif smS s3 then bif allV h.tr then bif true && (decide ((0 + List.length h.tr) * 32 ≤ 140737488355328) && decide (0 + List.length h.tr ≤ 9223372036854775807)) then bif kX h.w0 then bif kX h.w1 then bif kX h.w2 then bif kX h.w3 then bif kX s0.pg then bif kX s0.rd then bif kX s0.wt then bif kX s1.pg then bif kX s1.rd then bif kX s1.wt then bif kX s2.pg then bif kX s2.rd then bif kX s2.wt then bif kX s3.pg then bif kX s3.rd then bif kX s3.wt then bif decide (0 + List.length h.tr ≤ List.length ([] ++ h.tr)) && List.all ([] ++ h.tr) fun r => List.all r D.keeps then K (DV.agg [D.s (1) (3) (tC h.w0) (tD h.w0), D.s (1) (3) (tC h.w1) (tD h.w1), D.s (1) (3) (tC h.w2) (tD h.w2), D.s (1) (3) (tC h.w3) (tD h.w3), vN h.c0, vN h.c1, vN h.c2, vN h.c3, vN h.ce, D.s (1) (17) [(sTt s0), (sTt s1), (sTt s2), (sTt s3)] [], D.s (1) (4) (List.take (0 + List.length h.tr) ([] ++ h.tr)) (List.take (0 + List.length h.tr - (0 + List.length h.tr)) (List.drop (0 + List.length h.tr) ([] ++ h.tr)))]) else False else False else False else False else False else False else False else False else False else False else False else False else False else False else False else False else False else False else False else False else False else False else False else False) := by kernel_rfl
theorem ZtQ (h : Mh) (ss : List SesD) (hl : ss.length ≤ 4) (hm : smM h ss = true) : CT Tryz.prog 58 [.agg (macL 0 h ss)] (.agg (macL 1 h ss)) := by
  have h4 := Zmw hm
  obtain ⟨⟨a0, a1, a2, a3⟩, a4, a5⟩ := Zc5 hm
  obtain ⟨_, _, b0⟩ := Zac a0
  obtain ⟨_, _, b1⟩ := Zac a1
  obtain ⟨_, _, b2⟩ := Zac a2
  obtain ⟨_, _, b3⟩ := Zac a3
  obtain ⟨t1, t2, t3, t4⟩ := Zkt a4
  rcases ss with _ | ⟨s0, _ | ⟨s1, _ | ⟨s2, _ | ⟨s3, _ | ⟨s4, l⟩⟩⟩⟩⟩
  · refine Zsf (.cons Zjj (.cons ZpU .nil)) .nil .nil mixed Tryz.func58 rfl rfl rfl ?_
    rw [Zu1]
    refine ⟨?_⟩
    simp only [kX, tC, tD, sTt]
    simp only [h4, b0, b1, b2, b3, t1, t2, t3, t4, Nat.zero_add, List.nil_append, List.append_nil, Nat.le_refl, decide_true, Bool.and_self, Bool.true_and, cond_true, ZbN, Nat.add_zero, Nat.sub_self, List.take_zero]
    exact .aggO (.cons (.refl _) (.cons (.refl _) (.cons (.refl _) (.cons (.refl _) (.cons (.refl _) (.cons (.refl _) (.cons (.refl _) (.cons (.refl _) (.cons (.refl _) (.cons (.nil 17) (.cons (.refl _) .nil)))))))))))
  · have q0 := a5 s0 (by simp)
    obtain ⟨p0, r0, w0⟩ := ZaK q0
    obtain ⟨_, _, x0⟩ := Zac p0
    obtain ⟨_, _, y0⟩ := Zac r0
    obtain ⟨_, _, z0⟩ := Zac w0
    refine ct_m (.cons Zjj (.cons ZpU .nil)) .nil .nil mixed Tryz.func58 rfl rfl rfl ?_
    rw [ZuI]
    refine ⟨?_⟩
    simp only [kX, tC, tD, sTt]
    simp only [h4, b0, b1, b2, b3, t1, t2, t3, t4, q0, x0, y0, z0, Nat.zero_add, List.nil_append, List.append_nil, Nat.le_refl, decide_true, Bool.and_self, Bool.true_and, cond_true, ZbN, Nat.add_zero, Nat.sub_self, List.take_zero]
    rfl
  · have q0 := a5 s0 (by simp)
    obtain ⟨p0, r0, w0⟩ := ZaK q0
    obtain ⟨_, _, x0⟩ := Zac p0
    obtain ⟨_, _, y0⟩ := Zac r0
    obtain ⟨_, _, z0⟩ := Zac w0
    have q1 := a5 s1 (by simp)
    obtain ⟨p1, r1, w1⟩ := ZaK q1
    obtain ⟨_, _, x1⟩ := Zac p1
    obtain ⟨_, _, y1⟩ := Zac r1
    obtain ⟨_, _, z1⟩ := Zac w1
    refine ct_m (.cons Zjj (.cons ZpU .nil)) .nil .nil mixed Tryz.func58 rfl rfl rfl ?_
    rw [ZuG]
    refine ⟨?_⟩
    simp only [kX, tC, tD, sTt]
    simp only [h4, b0, b1, b2, b3, t1, t2, t3, t4, q0, x0, y0, z0, q1, x1, y1, z1, Nat.zero_add, List.nil_append, List.append_nil, Nat.le_refl, decide_true, Bool.and_self, Bool.true_and, cond_true, ZbN, Nat.add_zero, Nat.sub_self, List.take_zero]
    rfl
  · have q0 := a5 s0 (by simp)
    obtain ⟨p0, r0, w0⟩ := ZaK q0
    obtain ⟨_, _, x0⟩ := Zac p0
    obtain ⟨_, _, y0⟩ := Zac r0
    obtain ⟨_, _, z0⟩ := Zac w0
    have q1 := a5 s1 (by simp)
    obtain ⟨p1, r1, w1⟩ := ZaK q1
    obtain ⟨_, _, x1⟩ := Zac p1
    obtain ⟨_, _, y1⟩ := Zac r1
    obtain ⟨_, _, z1⟩ := Zac w1
    have q2 := a5 s2 (by simp)
    obtain ⟨p2, r2, w2⟩ := ZaK q2
    obtain ⟨_, _, x2⟩ := Zac p2
    obtain ⟨_, _, y2⟩ := Zac r2
    obtain ⟨_, _, z2⟩ := Zac w2
    refine ct_m (.cons Zjj (.cons ZpU .nil)) .nil .nil mixed Tryz.func58 rfl rfl rfl ?_
    rw [Zva]
    refine ⟨?_⟩
    simp only [kX, tC, tD, sTt]
    simp only [h4, b0, b1, b2, b3, t1, t2, t3, t4, q0, x0, y0, z0, q1, x1, y1, z1, q2, x2, y2, z2, Nat.zero_add, List.nil_append, List.append_nil, Nat.le_refl, decide_true, Bool.and_self, Bool.true_and, cond_true, ZbN, Nat.add_zero, Nat.sub_self, List.take_zero]
    rfl
  · have q0 := a5 s0 (by simp)
    obtain ⟨p0, r0, w0⟩ := ZaK q0
    obtain ⟨_, _, x0⟩ := Zac p0
    obtain ⟨_, _, y0⟩ := Zac r0
    obtain ⟨_, _, z0⟩ := Zac w0
    have q1 := a5 s1 (by simp)
    obtain ⟨p1, r1, w1⟩ := ZaK q1
    obtain ⟨_, _, x1⟩ := Zac p1
    obtain ⟨_, _, y1⟩ := Zac r1
    obtain ⟨_, _, z1⟩ := Zac w1
    have q2 := a5 s2 (by simp)
    obtain ⟨p2, r2, w2⟩ := ZaK q2
    obtain ⟨_, _, x2⟩ := Zac p2
    obtain ⟨_, _, y2⟩ := Zac r2
    obtain ⟨_, _, z2⟩ := Zac w2
    have q3 := a5 s3 (by simp)
    obtain ⟨p3, r3, w3⟩ := ZaK q3
    obtain ⟨_, _, x3⟩ := Zac p3
    obtain ⟨_, _, y3⟩ := Zac r3
    obtain ⟨_, _, z3⟩ := Zac w3
    refine ct_m (.cons Zjj (.cons ZpU .nil)) .nil .nil mixed Tryz.func58 rfl rfl rfl ?_
    rw [Zuv]
    refine ⟨?_⟩
    simp only [kX, tC, tD, sTt]
    simp only [h4, b0, b1, b2, b3, t1, t2, t3, t4, q0, x0, y0, z0, q1, x1, y1, z1, q2, x2, y2, z2, q3, x3, y3, z3, Nat.zero_add, List.nil_append, List.append_nil, Nat.le_refl, decide_true, Bool.and_self, Bool.true_and, cond_true, ZbN, Nat.add_zero, Nat.sub_self, List.take_zero]
    rfl
  · simp at hl
theorem Zw4 : Zad Tryz.prog 58 sCop := o_al Tryz.func58 (by kernel_rfl) rfl fun ds Q h => by
  unfold sCop at h; split at h
  · obtain ⟨m, ss, h, r⟩ := ZcK h
    obtain ⟨h1, h2⟩ := Zag h
    rw [Bool.and_eq_true] at h1
    exact ⟨_, _, .cons r .nil, ZtQ m ss (Nat.le_of_ble_eq_true h1.1) h1.2, ZiX h1.2, rfl, h2⟩
  · exact h.elim
theorem ZuU (h : Mh) (K : DV → Prop) : (askH Tryz.prog (hkM [(46, ZbT), (47, ZcH)] [] []) Tryz.f19 [.agg (macL 0 h [])] K) = (bif okC4 h.w0 h.w1 h.w2 h.w3 then bif allV h.tr then bif true && (decide ((0 + List.length h.tr) * 32 ≤ 140737488355328) && decide (0 + List.length h.tr ≤ 9223372036854775807)) then bif kX h.w0 then bif kX h.w1 then bif kX h.w2 then bif kX h.w3 then bif decide (0 + List.length h.tr ≤ List.length ([] ++ h.tr)) && List.all ([] ++ h.tr) fun r => List.all r D.keeps then K (DV.agg [D.s (1) (3) (tC h.w0) (tD h.w0), D.s (1) (3) (tC h.w1) (tD h.w1), D.s (1) (3) (tC h.w2) (tD h.w2), D.s (1) (3) (tC h.w3) (tD h.w3), vN h.c0, vN h.c1, vN h.c2, vN h.c3, vN h.ce, nilV, D.s (1) (4) (List.take (0 + List.length h.tr) ([] ++ h.tr)) (List.take (0 + List.length h.tr - (0 + List.length h.tr)) (List.drop (0 + List.length h.tr) ([] ++ h.tr)))]) else False else False else False else False else False else False else False else False) := by kernel_rfl
end

section
open Go Go.Proofs
theorem CTN.args {P : Program} {f : FuncId} {ds es : List DV} {r : DV} (h : All2 AL ds es) (hc : CTN P f es r) : CTN P f ds r := fun w vs S G hov => by
  refine hc w vs S G ?_
  cases hov with
  | tup _ _ _ sub h1 h2 h3 h4 =>
    refine .tup vs es S sub (by rw [← h.len]; exact h1) (fun i e hi => ?_) h3 h4
    obtain ⟨d, g1, g2⟩ := h.get hi
    exact g2 _ _ _ _ (h2 i d g1)
theorem Zou {P : Program} {f : FuncId} {s s' : Spec} (hs : Zad P f s) (hd : ∀ ds Q, s' ds Q → ∃ es, All2 AL ds es ∧ s es Q) : Zad P f s' := fun ds Q h => by
  obtain ⟨es, h1, h2⟩ := hd ds Q h
  obtain ⟨hg, r, hc, hp, hf, hq⟩ := hs es Q h2
  exact ⟨hg, r, hc.args h1, .inr (.inr ((Zja hc hp).args h1)), hf, hq⟩
def Zo6 (cs : List D) (K : List (List D) → List (List D) → List (List D) → List (List D) → Prop) : Prop := match cs with
  | [a, b, c, d] => Zce 1 a fun a => Zce 1 b fun b => Zce 1 c fun c => Zce 1 d fun d => K a b c d
  | _ => False
theorem ZkY {cs : List D} {K : List (List D) → List (List D) → List (List D) → List (List D) → Prop} (h : Zo6 cs K) : ∃ a b c d, K a b c d ∧ All2 RD cs [.s 0 1 a [], .s 0 1 b [], .s 0 1 c [], .s 0 1 d []] := by
  unfold Zo6 at h
  split at h
  · obtain ⟨a, h, e0⟩ := Zay h
    obtain ⟨b, h, e1⟩ := Zay h
    obtain ⟨c, h, e2⟩ := Zay h
    obtain ⟨d, h, e3⟩ := Zay h
    exact ⟨a, b, c, d, h, .cons e0 (.cons e1 (.cons e2 (.cons e3 .nil)))⟩
  · exact h.elim
def Zrq : Spec := fun ds Q => match ds with
  | [.agg cs] => cond (Zll cs) (Zo6 cs fun R0 R1 R2 R3 => cond (okV4 R0 R1 R2 R3) (cond (amay (toZ (mW R0)) (toZ (mW R1)) (toZ (mW R2)) (toZ (mW R3))) (Q (.tup [dO (mW R0) (mW R1) (mW R2) (mW R3), I 0])) (Q (.tup [dNil, I 400]))) False) False
  | _ => False
theorem ZqE : ∀ ds Q, Zrq ds Q → ∃ es, All2 AL ds es ∧ sNew es Q := fun ds Q h => by
  unfold Zrq at h; split at h
  · obtain ⟨h0, h⟩ := Zag h
    obtain ⟨a, b, c, d, h, r⟩ := ZkY h
    exact ⟨_, .cons (.agg r h0 rfl) .nil, h⟩
  · exact h.elim
theorem ZuO : Zad Tryz.prog 50 Zrq := Zou Zw7 ZqE
def ZoW (cs : List D) (K : Int → Int → Int → List (List D) → Prop) : Prop := match cs with
  | [a, b, c, d] => ZbM a fun a => ZbM b fun b => ZbM c fun c => Zce 4 d fun d => K a b c d
  | _ => False
theorem ZlO {cs : List D} {K : Int → Int → Int → List (List D) → Prop} (h : ZoW cs K) : ∃ a b c d, K a b c d ∧ All2 RD cs [vN a, vN b, vN c, .s 0 4 d []] := by
  unfold ZoW at h
  split at h
  · obtain ⟨a, h, e0⟩ := Zap h
    obtain ⟨b, h, e1⟩ := Zap h
    obtain ⟨c, h, e2⟩ := Zap h
    obtain ⟨d, h, e3⟩ := Zay h
    exact ⟨a, b, c, d, h, .cons e0 (.cons e1 (.cons e2 (.cons e3 .nil)))⟩
  · exact h.elim
def ZmT : Spec := fun ds Q => match ds with
  | [.agg cs] => cond (Zll cs) (ZoW cs fun i g c R => cond (okZ 4 R && decide (R.length ≤ 4398046510977)) (cond (smay i g c (toZ R)) (Q (.tup [ZoA i g c (.s 1 4 R []), I 0])) (Q (.tup [ZoA 0 0 0 nilD, I 1100]))) False) False
  | _ => False
theorem Zp4 : ∀ ds Q, ZmT ds Q → ∃ es, All2 AL ds es ∧ Zsc es Q := fun ds Q h => by
  unfold ZmT at h; split at h
  · obtain ⟨h0, h⟩ := Zag h
    obtain ⟨a, b, c, d, h, r⟩ := ZlO h
    exact ⟨_, .cons (.agg r h0 rfl) .nil, h⟩
  · exact h.elim
theorem Ztr : Zad Tryz.prog 51 ZmT := Zou ZuY Zp4
def Zu5 : Inl := inlM Tryz.prog [(50, Zrq), (51, ZmT), (27, sRMm)] [] [] Tryz.f21
end

section
open Go Go.Proofs
theorem ZvD (h : Mh) (ss : List SesD) (at' : Int) (K : DV → Prop) : (ask Tryz.prog [(27, sAtD [.agg (macL 0 h ss)] (B (mmay h ss)))] Tryz.f55 [.agg (macL 0 h ss), I at'] K) = ([DV.agg (macL (0) h ss)] = [DV.agg (macL (0) h ss)] ∧ bif mmay h ss then bif decide (at' ≥ 0) then K (DV.c (D.v (Value.bool (decide (at' < @Nat.cast Int _ (List.length (List.map (sesL (0)) ss))))))) else K (DV.c (D.v (Value.bool false))) else K (DV.c (D.v (Value.bool false)))) := by kernel_rfl
theorem gRM : Goes Tryz.prog 27 := Zat Tryz.func27 (by kernel_rfl) rfl
theorem ZtY (h : Mh) (ss : List SesD) (i : Int) (hok : okM h ss = true) : CT Tryz.prog 55 [.agg (macL 0 h ss), I i] (B (Zcq h ss i)) := by
  refine ct_s (.cons (oAtD gRM (cRM h ss hok) rfl rfl) .nil) mixed Tryz.func55 rfl rfl rfl ?_
  rw [ZvD]
  refine ⟨rfl, ?_⟩
  unfold Zcq
  rw [List.length_map]
  simp only [bifK]
def Zsd : Spec := fun ds Q => match ds with
  | [d, e] => macA d fun h ss => inA e fun i => cond (okM h ss) (Q (B (Zcq h ss i))) False
  | _ => False
theorem Zvv : Zad Tryz.prog 55 Zsd := o_al Tryz.func55 (by kernel_rfl) rfl fun ds Q h => by
  unfold Zsd at h; split at h
  · obtain ⟨m, ss, h, r⟩ := ZcK h
    obtain ⟨i, h, rfl⟩ := ZmV h
    obtain ⟨h1, h2⟩ := Zag h
    exact ⟨_, _, .cons r (.cons (.refl _) .nil), ZtY m ss i h1, rfl, rfl, h2⟩
  · exact h.elim
def iRtl : Inl := inlM Tryz.prog [] [] [] Tryz.f57
theorem ZlJ : Zbl Tryz.prog 57 iRtl := Zbm .nil .nil .nil mixed Tryz.func57 rfl (Zat Tryz.func57 (by kernel_rfl) rfl)
end

section
open Go Go.Proofs
def frcI (n : Int) (K : Int → Prop) : Prop := match n with
  | .ofNat m => frcN m fun m => K (.ofNat m)
  | .negSucc m => frcN m fun m => K (.negSucc m)
theorem Zpg {n : Int} {K : Int → Prop} (h : frcI n K) : K n := by
  unfold frcI at h; split at h
  · exact Zbk h
  · exact Zbk h
def ZqN (f : D → (D → Prop) → Prop) : List D → (List D → Prop) → Prop
  | [], K => K []
  | d :: l, K => f d fun d => ZqN f l fun l => K (d :: l)
def Zrf (f : D → (D → Prop) → Prop) : List (List D) → (List (List D) → Prop) → Prop
  | [], K => K []
  | r :: l, K => ZqN f r fun r => Zrf f l fun l => K (r :: l)
def frcX : Nat → D → (D → Prop) → Prop
  | 0, d, K => K d
  | n + 1, d, K => match d with
    | .s t z rows sp => Zrf (frcX n) rows fun rows => Zrf (frcX n) sp fun sp => K (.s t z rows sp)
    | .v x => match x with
      | .int k i => frcI i fun i => K (.v (.int k i))
      | x => K (.v x)
    | d => K d
theorem Zft {f : D → (D → Prop) → Prop} (hf : ∀ d K, f d K → K d) : ∀ (l : List D) (K : List D → Prop), ZqN f l K → K l
  | [], K, h => h
  | d :: l, K, h => Zft hf l _ (hf d _ h)
theorem Zfr {f : D → (D → Prop) → Prop} (hf : ∀ d K, f d K → K d) : ∀ (l : List (List D)) (K : List (List D) → Prop), Zrf f l K → K l
  | [], K, h => h
  | r :: l, K, h => Zfr hf l _ (Zft hf r _ h)
theorem ZdA : ∀ (n : Nat) (d : D) (K : D → Prop), frcX n d K → K d
  | 0, d, K, h => h
  | n + 1, d, K, h => by
    unfold frcX at h; split at h
    · exact Zfr (ZdA n) _ _ (Zfr (ZdA n) _ _ h)
    · split at h
      · exact Zpg h
      · exact h
    · exact h
def frcV (d : DV) (K : DV → Prop) : Prop := match d with
  | .c d => frcX 3 d fun d => K (.c d)
  | .agg cs => ZqN (frcX 3) cs fun cs => K (.agg cs)
  | .tup [.c d, e] => frcX 3 d fun d => K (.tup [.c d, e])
  | d => K d
theorem Zpp {d : DV} {K : DV → Prop} (h : frcV d K) : K d := by
  unfold frcV at h; split at h
  · exact ZdA 3 _ _ h
  · exact Zft (ZdA 3) _ _ h
  · exact ZdA 3 _ _ h
  · exact h
def sF (s : Spec) : Spec := fun ds Q => s ds fun r => frcV r Q
theorem oF {P : Program} {f : FuncId} {s : Spec} (h : Zad P f s) : Zad P f (sF s) := fun ds Q hq => by
  obtain ⟨hg, r, hc, hp, hf, hq⟩ := h ds _ hq
  exact ⟨hg, r, hc, hp, hf, Zpp hq⟩
def ZeD : Inl := Zfn Tryz.prog [34] (sF sCop)
theorem Zb5 : Zbl Tryz.prog 58 ZeD := Zd3 (oF Zw4)
def spC : List (FuncId × Spec) := [(55, Zsd), (56, sUp), (146, sUnd), (68, ZcP), (122, sRM), (123, sWMy), (145, sB idm), (164, Zfm), (121, Zqs), (136, sB lab)]
theorem ZbU : SpecsOK Tryz.prog spC := .cons (Zvv) (.cons (oUp2) (.cons (Zve) (.cons (Zf8) (.cons (oQM) (.cons (oWPy) (.cons (oRId) (.cons (Zjq) (.cons (ZuD) (.cons (Zu3) (.nil))))))))))
def jRT : Inl := inlM Tryz.prog spC [] [] Tryz.f165
theorem ZuW : Zbl Tryz.prog 165 jRT := Zbm ZbU .nil (.nil) mixed Tryz.func165 rfl (Zat Tryz.func165 (by kernel_rfl) rfl)
def Zt9 : Inl := inlM Tryz.prog spC [] [(165, jRT)] Tryz.f176
theorem Zrd : Zbl Tryz.prog 176 Zt9 := Zbm ZbU .nil (.cons ZuW (.nil)) mixed Tryz.func176 rfl (Zat Tryz.func176 (by kernel_rfl) rfl)
def jWR : Inl := inlM Tryz.prog spC [] [] Tryz.f190
theorem Zu9 : Zbl Tryz.prog 190 jWR := Zbm ZbU .nil (.nil) mixed Tryz.func190 rfl (Zat Tryz.func190 (by kernel_rfl) rfl)
def jFW : Inl := inlM Tryz.prog spC [] [] Tryz.f189
theorem Zue : Zbl Tryz.prog 189 jFW := Zbm ZbU .nil (.nil) mixed Tryz.func189 rfl (Zat Tryz.func189 (by kernel_rfl) rfl)
def jPl : Inl := inlM Tryz.prog spC [] [] Tryz.f141
theorem ZtP : Zbl Tryz.prog 141 jPl := Zbm ZbU .nil (.nil) mixed Tryz.func141 rfl (Zat Tryz.func141 (by kernel_rfl) rfl)
def jWW : Inl := inlM Tryz.prog spC [] [(141, jPl)] Tryz.f87
theorem Zu4 : Zbl Tryz.prog 87 jWW := Zbm ZbU .nil (.cons ZtP (.nil)) mixed Tryz.func87 rfl (Zat Tryz.func87 (by kernel_rfl) rfl)
def jWA : Inl := inlM Tryz.prog spC [] [] Tryz.f171
theorem Zuh : Zbl Tryz.prog 171 jWA := Zbm ZbU .nil (.nil) mixed Tryz.func171 rfl (Zat Tryz.func171 (by kernel_rfl) rfl)
def jAdd : Inl := inlM Tryz.prog spC [] [] Tryz.f85
theorem ZsJ : Zbl Tryz.prog 85 jAdd := Zbm ZbU .nil (.nil) mixed Tryz.func85 rfl (Zat Tryz.func85 (by kernel_rfl) rfl)
def Zj6 : Inl := inlM Tryz.prog spC [] [] Tryz.f83
theorem Zey : Zbl Tryz.prog 83 Zj6 := Zbm ZbU .nil (.nil) mixed Tryz.func83 rfl (Zat Tryz.func83 (by kernel_rfl) rfl)
def ZoX : Inl := inlM Tryz.prog spC [] [(83, Zj6)] Tryz.f167
theorem Zjs : Zbl Tryz.prog 167 ZoX := Zbm ZbU .nil (.cons Zey (.nil)) mixed Tryz.func167 rfl (Zat Tryz.func167 (by kernel_rfl) rfl)
def ZrX : Inl := inlM Tryz.prog spC [] [(167, ZoX), (58, ZeD), (57, iRtl), (176, Zt9), (190, jWR), (189, jFW)] Tryz.f169
theorem ZoU : Zbl Tryz.prog 169 ZrX := Zbm ZbU .nil (.cons Zjs (.cons Zb5 (.cons ZlJ (.cons Zrd (.cons Zu9 (.cons Zue (.nil))))))) mixed Tryz.func169 rfl (Zat Tryz.func169 (by kernel_rfl) rfl)
def ZrQ : Inl := inlM Tryz.prog spC [] [(83, Zj6), (58, ZeD), (57, iRtl), (87, jWW)] Tryz.f39
theorem ZpH : Zbl Tryz.prog 39 ZrQ := Zbm ZbU .nil (.cons Zey (.cons Zb5 (.cons ZlJ (.cons Zu4 (.nil))))) mixed Tryz.func39 rfl (Zat Tryz.func39 (by kernel_rfl) rfl)
def ZtL : Inl := inlM Tryz.prog spC [] [(83, Zj6), (58, ZeD), (85, jAdd)] Tryz.f34
theorem Zrk : Zbl Tryz.prog 34 ZtL := Zbm ZbU .nil (.cons Zey (.cons Zb5 (.cons ZsJ (.nil)))) mixed Tryz.func34 rfl (Zat Tryz.func34 (by kernel_rfl) rfl)
def jRun : Inl := inlM Tryz.prog spC [] [(83, Zj6), (167, ZoX), (169, ZrX), (39, ZrQ), (34, ZtL), (58, ZeD), (171, jWA)] Tryz.f128
theorem Zia : Zbl Tryz.prog 128 jRun := Zbm ZbU .nil (.cons Zey (.cons Zjs (.cons ZoU (.cons ZpH (.cons Zrk (.cons Zb5 (.cons Zuh (.nil)))))))) mixed Tryz.func128 rfl (Zat Tryz.func128 (by kernel_rfl) rfl)
end

section
open Go Go.Proofs
theorem ZrE {s : SesD} (hs : ZaD s = true) (h0 : 0 ≤ s.pc) (h1 : s.pc < s.pg.length) : iOK s = true := by
  unfold ZaD at hs
  simp only [Bool.and_eq_true] at hs
  obtain ⟨e, w, _⟩ := Zah hs.1
  have hk : s.pc.toNat < (toZ s.pg).length := by rw [Zal]; omega
  unfold iOK
  rw [e]
  exact Zav (j := 0) (n := 4) w hk (by omega)
theorem ins_eq {s : SesD} (hs : ZaD s = true) : iC s = ((toZ s.pg).getD s.pc.toNat []).getD 0 0 ∧ iA s = ((toZ s.pg).getD s.pc.toNat []).getD 1 0 ∧ iB s = ((toZ s.pg).getD s.pc.toNat []).getD 2 0 ∧ iD s = ((toZ s.pg).getD s.pc.toNat []).getD 3 0 := by
  unfold ZaD at hs
  simp only [Bool.and_eq_true] at hs
  obtain ⟨e, w, _⟩ := Zah hs.1
  have key : ∀ j, hdJ (List.drop j (List.getD s.pg (Int.toNat s.pc) [])) = ((toZ s.pg).getD s.pc.toNat []).getD j 0 := fun j => by
    conv => lhs; rw [e]
    exact ZbL _ _ j
  unfold iC iA iB iD
  refine ⟨key 0, ?_, ?_, ?_⟩
  · rw [← key 1]; simp [List.drop_one]
  · rw [← key 2]; simp [List.tail_drop, ← List.drop_one]
  · rw [← key 3]; simp [List.tail_drop, ← List.drop_one]
theorem Zo4 {s : SesD} (hs : ZaD s = true) {R0 R1 R2 R3 : List (List D)} (hm : Zam R0 R1 R2 R3 s = true) (h1 : s.pc < s.pg.length) : imay (iC s) (iA s) (iB s) (iD s) = true ∧ (iC s = 4 → s.pc < iB s ∧ iB s ≤ s.pg.length) := by
  obtain ⟨e1, e2, e3, e4⟩ := ins_eq hs
  have h0 := (ZeO hm).1
  unfold Zam smay at hm
  simp only [Bool.and_eq_true] at hm
  have hp := hm.1.2.2.2.2
  unfold pmay Zcf at hp
  simp only [Bool.and_eq_true, List.all_eq_true, List.mem_range] at hp
  have := hp.1 s.pc.toNat (by rw [Zal]; omega)
  unfold pI ZuF at this
  rw [← e1, ← e2, ← e3, ← e4] at this
  simp only [Bool.and_eq_true, Bool.not_eq_true', Bool.and_eq_false_iff, Bool.or_eq_false_iff, beq_eq_false_iff_ne, decide_eq_false_iff_not] at this
  refine ⟨this.1, fun h4 => ?_⟩
  rcases this.2 with h | h
  · exact (h h4).elim
  · rw [Zal] at h; omega
theorem Zu8 {n : Int} (h0 : 0 ≤ n) (h1 : n ≤ 1000000) : IntKind.wrap IntKind.i64 (n + 1) = n + 1 := by
  obtain ⟨m, rfl⟩ := Int.eq_ofNat_of_zero_le h0
  exact Zan (n := 1) (by omega)
def Zhd (s : SesD) (a : Int) : Int := bif decide (a = 0) then s.r0 else bif decide (a = 1) then s.r1 else bif decide (a = 2) then s.r2 else s.r3
theorem Zum {p : Int → Bool} {h : Mh} {ss : List SesD} (i : Int) (hok : okM h ss = true) : mAt p h ss i = true → smM h ss = true ∧ ss.length ≤ 4 := fun hm => by
  unfold mAt at hm
  rw [Bool.and_eq_true] at hm
  exact Zjm i hok hm.1
theorem Zi0 {p : Int → Bool} {h : Mh} {ss : List SesD} {i : Int} (hok : okM h ss = true) (hm : mAt p h ss i = true) : ∃ s, Foc h ss i s ∧ s.st = 0 ∧ 0 ≤ s.pc ∧ s.pc < s.pg.length ∧ s.pg.length ≤ 16 ∧ p (iC s) = true := by
  unfold mAt at hm
  rw [Bool.and_eq_true] at hm
  obtain ⟨s, f⟩ := foc hok hm.1
  have h2 := hm.2
  rw [f.at'] at h2
  simp only [atS, Bool.and_eq_true, decide_eq_true_eq, beq_iff_eq] at h2
  refine ⟨s, f, h2.1, (ZeO f.may).1, h2.2.1, ?_, ?_⟩
  · have := f.may
    unfold Zam smay at this
    simp only [Bool.and_eq_true] at this
    have := Zik this.1.2.2.2.2
    rwa [Zal] at this
  · have := h2.2.2
    unfold Zmp at this
    unfold iC
    rw [List.drop_zero]; exact this
end

section
open Go Go.Proofs
def Zkw (h : Mh) (a b k v : Int) : Mh := { h with tr := bif decide ((h.tr.length : Int) < 512) then h.tr ++ [[vN a, vN b, vN k, vN v]] else h.tr }
theorem Foc.oev {h : Mh} {ss : List SesD} {i : Int} {s : SesD} (f : Foc h ss i s) (a b c d : Int) : whole (List.length h.tr + 1) (List.take (List.length h.tr) h.tr ++ [[vN a, vN b, vN c, vN d]]) := Zo1 f.tr rfl
theorem Foc.fo0 {h : Mh} {ss : List SesD} {i : Int} {s : SesD} (f : Foc h ss i s) : Vm.foAt (Int.toNat i) (Int.toNat i) (List.length (List.map (sesL 1) ss)) := f.foAt
theorem Zb7 {h : Mh} {ss : List SesD} {i : Int} {s : SesD} (f : Foc h ss i s) (h' : Mh) (e : h'.tr = h.tr) (j : Nat) (s' : SesD) (a b k v : Int) :
    bif decide (@Nat.cast Int _ (List.length h.tr) < 512) then bif decide (List.length h.tr ≤ List.length h.tr) && (decide ((List.length h.tr + 1) * 32 ≤ 140737488355328) && decide (List.length h.tr + 1 ≤ 9223372036854775807)) then AL (DV.tup [DV.agg (ZaY (1) { h' with tr := (List.take (List.length h.tr) h.tr ++ [[vN a, vN b, vN k, vN v]]) } (List.set (List.map (sesL (1)) ss) j (sesL (1) s'))), I (0)]) (macR (Zkw h' a b k v) (ss.set j s') 0) else False else AL (DV.tup [DV.agg (ZaY (1) h' (List.set (List.map (sesL (1)) ss) j (sesL (1) s'))), I (0)]) (macR (Zkw h' a b k v) (ss.set j s') 0) := by
  unfold Zkw
  rw [e]
  cases hl : decide ((h.tr.length : Int) < 512)
  · have : ({ h' with tr := h.tr } : Mh) = h' := by rw [← e]
    simp only [cond_false, this]
    exact Zpu _ _ _ _ _
  · have hl' : h.tr.length < 512 := by have := of_decide_eq_true hl; omega
    rw [decide_eq_true (Nat.le_refl _), decide_eq_true (by omega), decide_eq_true (by omega), List.take_length]
    exact Zpu _ _ _ _ _
theorem ZmR (l : List (List Int)) : whole (List.length (mZ l)) (mZ l) := by
  refine ⟨rfl, ?_⟩
  unfold allK mZ
  rw [List.all_map, List.all_eq_true]
  intro r _
  simp only [Function.comp, List.all_map, List.all_eq_true]
  intro n _
  rfl
def Zcr (s : SesD) : SesD := { s with pc := s.pc + 1, wt := mZ (Zaj (toZ s.wt) [iB s, iD s, Zhd s (iA s)]) }
theorem ZrJ {c a b d : Int} (h : imay c a b d = true) (hc : c = 0 ∨ c = 1 ∨ c = 2 ∨ c = 3 ∨ c = 4) : a = 0 ∨ a = 1 ∨ a = 2 ∨ a = 3 := by
  refine ZjW ?_
  unfold imay at h
  rcases hc with rfl | rfl | rfl | rfl | rfl <;> simp at h <;> exact h.1
theorem ZrZ (s : SesD) : Zhd s 0 = s.r0 := rfl
theorem ZrC (s : SesD) : Zhd s 1 = s.r1 := rfl
theorem ZrS (s : SesD) : Zhd s 2 = s.r2 := rfl
theorem ZrN (s : SesD) : Zhd s 3 = s.r3 := rfl
-- SUB decide (0 ≤ i) && decide (i < @Nat.cast Int _ (List.length (List.map (sesL (1)) ss))) => ixI i ss
-- SUB foAt (addN (0) (Int.toNat i)) (Int.toNat i) (List.length (List.map (sesL (1)) ss)) => foA i ss
-- SUB foAt (Int.toNat i) (Int.toNat i) (List.length (List.map (sesL (1)) ss)) => foB i ss
-- SUB decide (List.length h.tr ≤ List.length h.tr) && (decide ((List.length h.tr + 1) * 32 ≤ 140737488355328) && decide (List.length h.tr + 1 ≤ 9223372036854775807)) => rmT h
-- SUB whole (List.length h.w0) h.w0 => wO h.w0
-- SUB whole (List.length h.w1) h.w1 => wO h.w1
-- SUB whole (List.length h.w2) h.w2 => wO h.w2
-- SUB whole (List.length h.w3) h.w3 => wO h.w3
-- SUB whole (List.length h.tr) h.tr => wO h.tr
-- SUB List.set (List.map (sesL (1)) ss) (Int.toNat i) => stI i ss
-- SUB whole (List.length (List.map (sesL (1)) ss)) => wLs ss
def ixI (i : Int) (ss : List SesD) : Bool := decide (0 ≤ i) && decide (i < @Nat.cast Int _ (List.length (List.map (sesL 1) ss)))
def foA (i : Int) (ss : List SesD) : Prop := foAt (addN 0 (Int.toNat i)) (Int.toNat i) (List.length (List.map (sesL 1) ss))
def foB (i : Int) (ss : List SesD) : Prop := foAt (Int.toNat i) (Int.toNat i) (List.length (List.map (sesL 1) ss))
def rmT (h : Mh) : Bool := decide (List.length h.tr ≤ List.length h.tr) && (decide ((List.length h.tr + 1) * 32 ≤ 140737488355328) && decide (List.length h.tr + 1 ≤ 9223372036854775807))
def wO (R : List (List D)) : Prop := whole (List.length R) R
def stI (i : Int) (ss : List SesD) (r : List D) : List (List D) := List.set (List.map (sesL 1) ss) (Int.toNat i) r
def wLs (ss : List SesD) (R : List (List D)) : Prop := whole (List.length (List.map (sesL 1) ss)) R
theorem eSto (h : Mh) (ss : List SesD) (s : SesD) (i : Int) (t : Bool) (K : DV → Prop) : (askW Tryz.prog (hkF [(80, sAtD [.c (.p 0 (macL 0 h ss) 0), I i, .c (.s 0 1 [[vi 3]] [])] (B t)), (86, sWth)] [] [(53, iCpF t h ss i s), (54, Zuq)]) Tryz.f38 [.agg (macL 0 h ss), I i] K) = ([DV.c (D.p (0) (macL (0) h ss) (0)), I i, DV.c (D.s (0) (1) [[vi (3)]] [])] = [DV.c (D.p (0) (macL (0) h ss) (0)), I i, DV.c (D.s (0) (1) [[vi (3)]] [])] ∧ bif !t then K (DV.tup [DV.agg mac0, I (1600)]) else t = true ∧ [DV.agg (macL (0) h ss)] = [DV.agg (macL (0) h ss)] ∧ ZcU (List.map (sesL (1)) ss) (Int.toNat i) (1) s ∧ bif ixI i ss then foA i ss ∧ foA i ss ∧ bif decide (0 ≤ s.pc) && decide (s.pc < @Nat.cast Int _ (List.length s.pg)) then bif iOK s then bif decide (iA s = 0) then foA i ss ∧ foA i ss ∧ bif okZ (3) s.wt then foA i ss ∧ foB i ss ∧ whole (List.length (mZ (Zaj (toZ s.wt) [iB s, iD s, s.r0]))) (mZ (Zaj (toZ s.wt) [iB s, iD s, s.r0]) ++ []) ∧ foA i ss ∧ foA i ss ∧ bif decide (@Nat.cast Int _ (List.length h.tr) < 512) then bif ixI i ss then foA i ss ∧ foA i ss ∧ bif rmT h then wO h.w0 ∧ wO h.w1 ∧ wO h.w2 ∧ wO h.w3 ∧ wLs ss (stI i ss (sesL (1) { s with pc := (IntKind.wrap IntKind.i64 (s.pc + 1)), wt := (mZ (Zaj (toZ s.wt) [iB s, iD s, s.r0]) ++ []) })) ∧ whole (List.length h.tr + 1) (List.take (List.length h.tr) h.tr ++ [[vN s.id, vN s.lb, vN (1), vN s.r0]]) ∧ K (DV.tup [DV.agg (ZaY (1) { h with tr := (List.take (List.length h.tr) h.tr ++ [[vN s.id, vN s.lb, vN (1), vN s.r0]]) } (stI i ss (sesL (1) { s with pc := (IntKind.wrap IntKind.i64 (s.pc + 1)), wt := (mZ (Zaj (toZ s.wt) [iB s, iD s, s.r0]) ++ []) }))), I (0)]) else False else False else wO h.w0 ∧ wO h.w1 ∧ wO h.w2 ∧ wO h.w3 ∧ wLs ss (stI i ss (sesL (1) { s with pc := (IntKind.wrap IntKind.i64 (s.pc + 1)), wt := (mZ (Zaj (toZ s.wt) [iB s, iD s, s.r0]) ++ []) })) ∧ wO h.tr ∧ K (DV.tup [DV.agg (ZaY (1) h (stI i ss (sesL (1) { s with pc := (IntKind.wrap IntKind.i64 (s.pc + 1)), wt := (mZ (Zaj (toZ s.wt) [iB s, iD s, s.r0]) ++ []) }))), I (0)]) else False else bif decide (iA s = 1) then foA i ss ∧ foA i ss ∧ bif okZ (3) s.wt then foA i ss ∧ foB i ss ∧ whole (List.length (mZ (Zaj (toZ s.wt) [iB s, iD s, s.r1]))) (mZ (Zaj (toZ s.wt) [iB s, iD s, s.r1]) ++ []) ∧ foA i ss ∧ foA i ss ∧ bif decide (@Nat.cast Int _ (List.length h.tr) < 512) then bif ixI i ss then foA i ss ∧ foA i ss ∧ bif rmT h then wO h.w0 ∧ wO h.w1 ∧ wO h.w2 ∧ wO h.w3 ∧ wLs ss (stI i ss (sesL (1) { s with pc := (IntKind.wrap IntKind.i64 (s.pc + 1)), wt := (mZ (Zaj (toZ s.wt) [iB s, iD s, s.r1]) ++ []) })) ∧ whole (List.length h.tr + 1) (List.take (List.length h.tr) h.tr ++ [[vN s.id, vN s.lb, vN (1), vN s.r1]]) ∧ K (DV.tup [DV.agg (ZaY (1) { h with tr := (List.take (List.length h.tr) h.tr ++ [[vN s.id, vN s.lb, vN (1), vN s.r1]]) } (stI i ss (sesL (1) { s with pc := (IntKind.wrap IntKind.i64 (s.pc + 1)), wt := (mZ (Zaj (toZ s.wt) [iB s, iD s, s.r1]) ++ []) }))), I (0)]) else False else False else wO h.w0 ∧ wO h.w1 ∧ wO h.w2 ∧ wO h.w3 ∧ wLs ss (stI i ss (sesL (1) { s with pc := (IntKind.wrap IntKind.i64 (s.pc + 1)), wt := (mZ (Zaj (toZ s.wt) [iB s, iD s, s.r1]) ++ []) })) ∧ wO h.tr ∧ K (DV.tup [DV.agg (ZaY (1) h (stI i ss (sesL (1) { s with pc := (IntKind.wrap IntKind.i64 (s.pc + 1)), wt := (mZ (Zaj (toZ s.wt) [iB s, iD s, s.r1]) ++ []) }))), I (0)]) else False else bif decide (iA s = 2) then foA i ss ∧ foA i ss ∧ bif okZ (3) s.wt then foA i ss ∧ foB i ss ∧ whole (List.length (mZ (Zaj (toZ s.wt) [iB s, iD s, s.r2]))) (mZ (Zaj (toZ s.wt) [iB s, iD s, s.r2]) ++ []) ∧ foA i ss ∧ foA i ss ∧ bif decide (@Nat.cast Int _ (List.length h.tr) < 512) then bif ixI i ss then foA i ss ∧ foA i ss ∧ bif rmT h then wO h.w0 ∧ wO h.w1 ∧ wO h.w2 ∧ wO h.w3 ∧ wLs ss (stI i ss (sesL (1) { s with pc := (IntKind.wrap IntKind.i64 (s.pc + 1)), wt := (mZ (Zaj (toZ s.wt) [iB s, iD s, s.r2]) ++ []) })) ∧ whole (List.length h.tr + 1) (List.take (List.length h.tr) h.tr ++ [[vN s.id, vN s.lb, vN (1), vN s.r2]]) ∧ K (DV.tup [DV.agg (ZaY (1) { h with tr := (List.take (List.length h.tr) h.tr ++ [[vN s.id, vN s.lb, vN (1), vN s.r2]]) } (stI i ss (sesL (1) { s with pc := (IntKind.wrap IntKind.i64 (s.pc + 1)), wt := (mZ (Zaj (toZ s.wt) [iB s, iD s, s.r2]) ++ []) }))), I (0)]) else False else False else wO h.w0 ∧ wO h.w1 ∧ wO h.w2 ∧ wO h.w3 ∧ wLs ss (stI i ss (sesL (1) { s with pc := (IntKind.wrap IntKind.i64 (s.pc + 1)), wt := (mZ (Zaj (toZ s.wt) [iB s, iD s, s.r2]) ++ []) })) ∧ wO h.tr ∧ K (DV.tup [DV.agg (ZaY (1) h (stI i ss (sesL (1) { s with pc := (IntKind.wrap IntKind.i64 (s.pc + 1)), wt := (mZ (Zaj (toZ s.wt) [iB s, iD s, s.r2]) ++ []) }))), I (0)]) else False else bif decide (iA s = 3) then foA i ss ∧ foA i ss ∧ bif okZ (3) s.wt then foA i ss ∧ foB i ss ∧ whole (List.length (mZ (Zaj (toZ s.wt) [iB s, iD s, s.r3]))) (mZ (Zaj (toZ s.wt) [iB s, iD s, s.r3]) ++ []) ∧ foA i ss ∧ foA i ss ∧ bif decide (@Nat.cast Int _ (List.length h.tr) < 512) then bif ixI i ss then foA i ss ∧ foA i ss ∧ bif rmT h then wO h.w0 ∧ wO h.w1 ∧ wO h.w2 ∧ wO h.w3 ∧ wLs ss (stI i ss (sesL (1) { s with pc := (IntKind.wrap IntKind.i64 (s.pc + 1)), wt := (mZ (Zaj (toZ s.wt) [iB s, iD s, s.r3]) ++ []) })) ∧ whole (List.length h.tr + 1) (List.take (List.length h.tr) h.tr ++ [[vN s.id, vN s.lb, vN (1), vN s.r3]]) ∧ K (DV.tup [DV.agg (ZaY (1) { h with tr := (List.take (List.length h.tr) h.tr ++ [[vN s.id, vN s.lb, vN (1), vN s.r3]]) } (stI i ss (sesL (1) { s with pc := (IntKind.wrap IntKind.i64 (s.pc + 1)), wt := (mZ (Zaj (toZ s.wt) [iB s, iD s, s.r3]) ++ []) }))), I (0)]) else False else False else wO h.w0 ∧ wO h.w1 ∧ wO h.w2 ∧ wO h.w3 ∧ wLs ss (stI i ss (sesL (1) { s with pc := (IntKind.wrap IntKind.i64 (s.pc + 1)), wt := (mZ (Zaj (toZ s.wt) [iB s, iD s, s.r3]) ++ []) })) ∧ wO h.tr ∧ K (DV.tup [DV.agg (ZaY (1) h (stI i ss (sesL (1) { s with pc := (IntKind.wrap IntKind.i64 (s.pc + 1)), wt := (mZ (Zaj (toZ s.wt) [iB s, iD s, s.r3]) ++ []) }))), I (0)]) else False else False else False else False else False) := by kernel_rfl
theorem ZpT {a x : Int} (h : has1 a x = true) : x = a := by
  unfold has1 at h
  cases h1 : x == a
  · simp [h1] at h
  · simpa using h1
theorem ZaV {s : SesD} (h : ZaD s = true) : okZ 4 s.pg = true ∧ okZ 3 s.rd = true ∧ okZ 3 s.wt = true := by
  unfold ZaD at h; simpa [Bool.and_eq_true] using h
def ZbO (h : Mh) (s : SesD) : Mh := Zkw h s.id s.lb 1 (Zhd s (iA s))
theorem cSto (h : Mh) (ss : List SesD) (i : Int) (hok : okM h ss = true) : CT Tryz.prog 38 [.agg (macL 0 h ss), I i] (bif mAt (has1 3) h ss i then macR (ZbO h (ss.getD i.toNat default)) (ss.set i.toNat (Zcr (ss.getD i.toNat default))) 0 else macE 1600) := by
  refine ZoB (.cons (oAtD gAt (cAt1 h ss i 3 hok) rfl rfl) (.cons oWth .nil)) .nil (.cons (ZsW i (ss.getD i.toNat default) (Zum (p := has1 3) i hok)) (.cons Zqu .nil)) mixed Tryz.func38 rfl rfl rfl ?_
  rw [eSto]
  refine ⟨⟨rfl, ?_⟩⟩
  unfold ixI foA foB wO rmT stI wLs
  cases hm : mAt (has1 3) h ss i with
  | false => exact Zrt 1600
  | true =>
    obtain ⟨s, f, hst, hp0, hp1, hp2, hcode⟩ := Zi0 hok hm
    rw [f.getD]
    refine ⟨rfl, rfl, f.row, ?_⟩
    have hpc : (decide (0 ≤ s.pc) && decide (s.pc < @Nat.cast Int _ (List.length s.pg))) = true := by rw [decide_eq_true hp0, decide_eq_true hp1]; rfl
    have hw : IntKind.wrap IntKind.i64 (s.pc + 1) = s.pc + 1 := Zu8 hp0 (by omega)
    simp only [f.ix, cond_true, f.foAt, f.fo0, f.ow0, f.ow1, f.ow2, f.ow3, f.otr, f.oss, f.oev, true_and, hpc, ZrE f.ok hp0 hp1, hw, (ZaV f.ok).2.2, List.append_nil, ZmR]
    have hA := ZrJ (Zo4 f.ok f.may hp1).1 (.inr (.inr (.inr (.inl (ZpT hcode)))))
    unfold Zcr ZbO
    rcases hA with e | e | e | e <;> rw [e] <;> simp only [Int.reduceEq, decide_true, decide_false, cond_true, cond_false, ZrZ, ZrC, ZrS, ZrN]
    · exact Zb7 f h rfl i.toNat { s with pc := s.pc + 1, wt := mZ (Zaj (toZ s.wt) [iB s, iD s, s.r0]) } s.id s.lb 1 s.r0
    · exact Zb7 f h rfl i.toNat { s with pc := s.pc + 1, wt := mZ (Zaj (toZ s.wt) [iB s, iD s, s.r1]) } s.id s.lb 1 s.r1
    · exact Zb7 f h rfl i.toNat { s with pc := s.pc + 1, wt := mZ (Zaj (toZ s.wt) [iB s, iD s, s.r2]) } s.id s.lb 1 s.r2
    · exact Zb7 f h rfl i.toNat { s with pc := s.pc + 1, wt := mZ (Zaj (toZ s.wt) [iB s, iD s, s.r3]) } s.id s.lb 1 s.r3
end

end Vm
