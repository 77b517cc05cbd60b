/- An interpreter for Go's texts over plain data, its proof, and what it says of the functions that the law reaches. My own work. -/
import Derived.Test.YtnhodnfnlnccaaaGreatMs5
set_option linter.unusedSimpArgs false
set_option linter.unusedVariables false
set_option maxRecDepth 100000
set_option maxHeartbeats 2000000
namespace Vm
section
open Go Go.Proofs
def newS (s : StD) : SesD := ⟨s.id, s.lb, s.cl, s.pg, 0, 0, 0, 0, 0, 0, [], [], 0, 0, 0, 0, 0⟩
def ses0 : SesD := ⟨0, 0, 0, [], 0, 0, 0, 0, 0, 0, [], [], 0, 0, 0, 0, 0⟩
def okSt (s : StD) : Bool := okZ 4 s.pg && decide (s.pg.length ≤ 4398046510977)
def Zcx (s : StD) : Bool := smay s.id s.lb s.cl (toZ s.pg)
def ZcE : Spec := fun ds Q => match ds with
  | [.agg cs] => cond (Zkl cs) (Znn cs fun i g c R => cond (okSt ⟨i, g, c, R⟩) (cond (Zcx ⟨i, g, c, R⟩) (Q (.tup [.agg (sesL 1 (newS ⟨i, g, c, R⟩)), I 0])) (Q (.tup [.agg (sesL 1 ses0), I 1100]))) False) False
  | _ => False
structure ScrD where
  (v0 v1 v2 v3 : List (List D))
  ce : Int
  sts : List StD
  sl : List (List D)
def scrL (t : Nat) (c : ScrD) : List D := [.s t 1 c.v0 [], .s t 1 c.v1 [], .s t 1 c.v2 [], .s t 1 c.v3 [], vN c.ce, .s t 4 (c.sts.map (staL t)) [], .s t 2 c.sl []]
def mhW (w0 w1 w2 w3 : List (List D)) (ce : Int) : Mh := ⟨w0, w1, w2, w3, 0, 0, 0, 0, ce, []⟩
def ZbM (c : ScrD) (w0 w1 w2 w3 : List (List D)) (r e i : Int) (W0 W1 W2 W3 : List (List D)) : X := ⟨mkT 54 [(1, .c (.rp 2 0 7 0 0)), (2, .c (.rp 3 0 11 0 0)), (3, ai r), (5, ai e), (6, .c (.rp 7 0 11 0 0)), (22, .c (.d (.s 0 4 (c.sts.map (staL 0)) []))), (23, ai (c.sts.map (staL 0)).length), (24, ai i)], [(2, .bx 0 7 ((scrL 0 c).map C.d)), (3, .bx 0 11 (mac0.map C.d)), (7, .bx 0 11 [.rs 15000 0 3 0 w0.length w0.length, .rs 15001 0 3 0 w1.length w1.length, .rs 15002 0 3 0 w2.length w2.length, .rs 15003 0 3 0 w3.length w3.length, ci 0, ci 0, ci 0, ci 0, ci c.ce, .d nilV, .d nilV]), (15000, .sl 0 3 W0), (15001, .sl 0 3 W1), (15002, .sl 0 3 W2), (15003, .sl 0 3 W3)], [], []⟩
abbrev ZiF (c : ScrD) (w0 w1 w2 w3 : List (List D)) (r e i : Int) : X := ZbM c w0 w1 w2 w3 r e i w0 w1 w2 w3
def stNw (c : ScrD) (w0 w1 w2 w3 : List (List D)) (r e i : Int) (n m : Nat) (R : List (List D)) : X := ⟨mkT 54 [(1, .c (.rp 2 0 7 0 0)), (2, .c (.rp 3 0 11 0 0)), (3, ai r), (5, ai e), (6, .c (.rp 7 0 11 0 0)), (22, .c (.d (.s 0 4 (c.sts.map (staL 0)) []))), (23, ai (c.sts.map (staL 0)).length), (24, ai i)], [(2, .bx 0 7 ((scrL 0 c).map C.d)), (3, .bx 0 11 (mac0.map C.d)), (7, .bx 0 11 [.rs 15000 0 3 0 w0.length w0.length, .rs 15001 0 3 0 w1.length w1.length, .rs 15002 0 3 0 w2.length w2.length, .rs 15003 0 3 0 w3.length w3.length, ci 0, ci 0, ci 0, ci 0, ci c.ce, .rs 43 0 17 0 n m, .d nilV]), (15000, .sl 0 3 w0), (15001, .sl 0 3 w1), (15002, .sl 0 3 w2), (15003, .sl 0 3 w3), (43, .sl 0 17 R)], [], []⟩
def vNw (c : ScrD) (w0 w1 w2 w3 : List (List D)) : Vw := fun y K => wI y 3 fun r => wI y 5 fun e => wI y 24 fun i => wR y 7 fun b => wCn 9 b fun d => cS d fun n m => wL y 43 fun R => K (stNw c w0 w1 w2 w3 r e i n m R)
theorem Zm0 (c : ScrD) (w0 w1 w2 w3 : List (List D)) : VwOK (vNw c w0 w1 w2 w3) := fun y K q => by
  unfold vNw at q
  obtain ⟨r, q⟩ := Za7 q
  obtain ⟨e, q⟩ := Za7 q
  obtain ⟨i, q⟩ := Za7 q
  obtain ⟨b, q⟩ := Zq6 q
  obtain ⟨d, q⟩ := ZjZ q
  obtain ⟨n, m, q⟩ := Zqs q
  obtain ⟨R, q⟩ := Zb8 q
  exact ⟨_, q⟩
def vNwe (c : ScrD) (w0 w1 w2 w3 : List (List D)) (n m : Nat) (R : List (List D)) : Vw := fun y K => wI y 3 fun r => wI y 5 fun e => wI y 24 fun i => K (stNw c w0 w1 w2 w3 r e i n m R)
theorem Zti (c : ScrD) (w0 w1 w2 w3 : List (List D)) (n m : Nat) (R : List (List D)) : VwOK (vNwe c w0 w1 w2 w3 n m R) := fun y K q => by
  unfold vNwe at q
  obtain ⟨r, q⟩ := Za7 q
  obtain ⟨e, q⟩ := Za7 q
  obtain ⟨i, q⟩ := Za7 q
  exact ⟨_, q⟩
def vNwz (c : ScrD) (w0 w1 w2 w3 : List (List D)) : Vw := fun y K => wI y 3 fun r => wI y 5 fun e => wI y 24 fun i => K (ZiF c w0 w1 w2 w3 r e i)
theorem Zms (c : ScrD) (w0 w1 w2 w3 : List (List D)) : VwOK (vNwz c w0 w1 w2 w3) := fun y K q => by
  unfold vNwz at q
  obtain ⟨r, q⟩ := Za7 q
  obtain ⟨e, q⟩ := Za7 q
  obtain ⟨i, q⟩ := Za7 q
  exact ⟨_, q⟩
theorem rNw0 (c : ScrD) (w0 w1 w2 w3 : List (List D)) (Nn : X → Prop) (E : Exit → X → Prop) : (ZaX Tryz.prog (hkC [(49, ZcE)] [] [] []) Tryz.f20 0 [] [1, 2, 3, 5, 6, 22, 23, 24] [2, 3, 7, 15000, 15001, 15002, 15003, 43] (vNw c w0 w1 w2 w3) (fun _ => vNwz c w0 w1 w2 w3) Nn E (ZiF c w0 w1 w2 w3 0 0 0)) = (bif decide (0 < @Nat.cast Int _ (List.length (List.map (staL (0)) c.sts))) then bif true && decide (0 < @Nat.cast Int _ (List.length (List.map (staL (0)) c.sts))) then ∃ s, Zd6 (List.map (staL (0)) c.sts) (0) (0) s ∧ bif okSt s then bif Zcx s then foAt (0) (0) (1) ∧ whole (List.length (newS s).pg) ((newS s).pg ++ []) ∧ foAt (0) (0) (1) ∧ whole (0) [] ∧ foAt (0) (0) (1) ∧ whole (0) [] ∧ stNw c w0 w1 w2 w3 (0) (0) (1) (1) (1) [(sesL (1) { newS s with pg := (newS s).pg ++ [], rd := [], wt := [] })] = stNw c w0 w1 w2 w3 (0) (0) (1) (1) (1) [(sesL (1) { newS s with pg := (newS s).pg ++ [], rd := [], wt := [] })] ∧ Nn (stNw c w0 w1 w2 w3 (0) (0) (1) (1) (1) [(sesL (1) { newS s with pg := (newS s).pg ++ [], rd := [], wt := [] })]) else ZbM c w0 w1 w2 w3 (0) (1100) (0) w0 w1 w2 w3 = ZbM c w0 w1 w2 w3 (0) (1100) (0) w0 w1 w2 w3 ∧ E (Exit.exit (0)) (ZbM c w0 w1 w2 w3 (0) (1100) (0) w0 w1 w2 w3) else False else False else ZbM c w0 w1 w2 w3 (0) (0) (0) w0 w1 w2 w3 = ZbM c w0 w1 w2 w3 (0) (0) (0) w0 w1 w2 w3 ∧ E (Exit.exit (0)) (ZbM c w0 w1 w2 w3 (0) (0) (0) w0 w1 w2 w3)) := by kernel_rfl
theorem rNwb (c : ScrD) (w0 w1 w2 w3 : List (List D)) (Nn : X → Prop) (E : Exit → X → Prop) : (ZaX Tryz.prog (hkC [(49, ZcE)] [] [] []) Tryz.f20 0 [] [1, 2, 3, 5, 6, 22, 23, 24] [2, 3, 7, 15000, 15001, 15002, 15003, 43] (vNw c w0 w1 w2 w3) (fun _ => vNwz c w0 w1 w2 w3) Nn E (ZiF c w0 w1 w2 w3 0 400 0)) = (bif decide (0 < @Nat.cast Int _ (List.length (List.map (staL (0)) c.sts))) then bif true && decide (0 < @Nat.cast Int _ (List.length (List.map (staL (0)) c.sts))) then ∃ s, Zd6 (List.map (staL (0)) c.sts) (0) (0) s ∧ bif okSt s then bif Zcx s then ZbM c w0 w1 w2 w3 (0) (400) (0) w0 w1 w2 w3 = ZbM c w0 w1 w2 w3 (0) (400) (0) w0 w1 w2 w3 ∧ E (Exit.exit (0)) (ZbM c w0 w1 w2 w3 (0) (400) (0) w0 w1 w2 w3) else ZbM c w0 w1 w2 w3 (0) (1100) (0) w0 w1 w2 w3 = ZbM c w0 w1 w2 w3 (0) (1100) (0) w0 w1 w2 w3 ∧ E (Exit.exit (0)) (ZbM c w0 w1 w2 w3 (0) (1100) (0) w0 w1 w2 w3) else False else False else ZbM c w0 w1 w2 w3 (0) (400) (0) w0 w1 w2 w3 = ZbM c w0 w1 w2 w3 (0) (400) (0) w0 w1 w2 w3 ∧ E (Exit.exit (0)) (ZbM c w0 w1 w2 w3 (0) (400) (0) w0 w1 w2 w3)) := by kernel_rfl
theorem rNw1 (c : ScrD) (w0 w1 w2 w3 : List (List D)) (i : Int) (n m : Nat) (R : List (List D)) (Nn : X → Prop) (E : Exit → X → Prop) : (ZaX Tryz.prog (hkC [(49, ZcE)] [] [] []) Tryz.f20 0 [] [1, 2, 3, 5, 6, 22, 23, 24] [2, 3, 7, 15000, 15001, 15002, 15003, 43] (vNw c w0 w1 w2 w3) (fun _ => vNwe c w0 w1 w2 w3 n m R) Nn E (stNw c w0 w1 w2 w3 0 0 i n m R)) = (bif decide (i < @Nat.cast Int _ (List.length (List.map (staL (0)) c.sts))) then bif decide (0 ≤ i) && decide (i < @Nat.cast Int _ (List.length (List.map (staL (0)) c.sts))) then ∃ s, Zd6 (List.map (staL (0)) c.sts) (Int.toNat i) (0) s ∧ bif okSt s then bif Zcx s then n = List.length R ∧ bif decide ((n + 1) * 184 ≤ 140737488355328) && decide (n + 1 ≤ 9223372036854775807) then foAt n n (List.length (R ++ [[]])) ∧ whole (List.length (newS s).pg) ((newS s).pg ++ []) ∧ foAt n n (List.length (R ++ [[]])) ∧ whole (0) [] ∧ foAt n n (List.length (R ++ [[]])) ∧ whole (0) [] ∧ stNw c w0 w1 w2 w3 (0) (0) (IntKind.wrap IntKind.i64 (i + 1)) (n + 1) (n + 1) (List.set (R ++ [[]]) n (sesL (1) { newS s with pg := (newS s).pg ++ [], rd := [], wt := [] })) = stNw c w0 w1 w2 w3 (0) (0) (IntKind.wrap IntKind.i64 (i + 1)) (n + 1) (n + 1) (List.set (R ++ [[]]) n (sesL (1) { newS s with pg := (newS s).pg ++ [], rd := [], wt := [] })) ∧ Nn (stNw c w0 w1 w2 w3 (0) (0) (IntKind.wrap IntKind.i64 (i + 1)) (n + 1) (n + 1) (List.set (R ++ [[]]) n (sesL (1) { newS s with pg := (newS s).pg ++ [], rd := [], wt := [] }))) else False else stNw c w0 w1 w2 w3 (0) (1100) i n m R = stNw c w0 w1 w2 w3 (0) (1100) i n m R ∧ E (Exit.exit (0)) (stNw c w0 w1 w2 w3 (0) (1100) i n m R) else False else False else stNw c w0 w1 w2 w3 (0) (0) i n m R = stNw c w0 w1 w2 w3 (0) (0) i n m R ∧ E (Exit.exit (0)) (stNw c w0 w1 w2 w3 (0) (0) i n m R)) := by kernel_rfl
def fNw (c : ScrD) (w0 w1 w2 w3 : List (List D)) (e0 : Int) (z : Bool) (r1 e1 i1 : Int) (n : Nat) (R : List (List D)) : LSum := fun Q x => wL x 15000 fun W0 => wL x 15001 fun W1 => wL x 15002 fun W2 => wL x 15003 fun W3 => W0 = w0 ∧ W1 = w1 ∧ W2 = w2 ∧ W3 = w3 ∧ x.arr [1, 2, 3, 5, 6, 22, 23, 24] [2, 3, 7, 15000, 15001, 15002, 15003, 43] = ZbM c w0 w1 w2 w3 0 e0 0 W0 W1 W2 W3 ∧ ((z = true → Q (.exit 0) (ZiF c w0 w1 w2 w3 r1 e1 i1)) ∧ (z = false → Q (.exit 0) (stNw c w0 w1 w2 w3 r1 e1 i1 n n R)))
theorem eNw (c : ScrD) (w0 w1 w2 w3 : List (List D)) (e0 : Int) (z : Bool) (r1 e1 i1 : Int) (n : Nat) (R : List (List D)) (ss : List SesD) (t : Bool) (K : DV → Prop) : (askW Tryz.prog (hkC [(48, sAtD [.agg [.s 0 1 c.v0 [], .s 0 1 c.v1 [], .s 0 1 c.v2 [], .s 0 1 c.v3 []]] (.tup [dO w0 w1 w2 w3, I e0])), (49, ZcE), (26, sAtL [.agg (macL 0 (mhW w0 w1 w2 w3 c.ce) ss)] (B t))] [] [] [(4, fNw c w0 w1 w2 w3 e0 z r1 e1 i1 n R)]) Tryz.f20 [.agg (scrL 0 c)] K) = ([DV.agg [D.s (0) (1) c.v0 [], D.s (0) (1) c.v1 [], D.s (0) (1) c.v2 [], D.s (0) (1) c.v3 []]] = [DV.agg [D.s (0) (1) c.v0 [], D.s (0) (1) c.v1 [], D.s (0) (1) c.v2 [], D.s (0) (1) c.v3 []]] ∧ w0 ++ [] = w0 ∧ w1 ++ [] = w1 ∧ w2 ++ [] = w2 ∧ w3 ++ [] = w3 ∧ ZbM c w0 w1 w2 w3 (0) e0 (0) (w0 ++ []) (w1 ++ []) (w2 ++ []) (w3 ++ []) = ZbM c w0 w1 w2 w3 (0) e0 (0) (w0 ++ []) (w1 ++ []) (w2 ++ []) (w3 ++ []) ∧ (z = true → bif e1 != 0 then K (DV.tup [DV.agg mac0, I (1200)]) else bif decide (0 + List.length w0 ≤ List.length w0) then bif decide (0 + List.length w1 ≤ List.length w1) then bif decide (0 + List.length w2 ≤ List.length w2) then bif decide (0 + List.length w3 ≤ List.length w3) then Zn2 [DV.agg [D.s (0) (3) (cut w0 (0) (List.length w0)) (cut w0 (0 + List.length w0) (List.length w0 - List.length w0)), D.s (0) (3) (cut w1 (0) (List.length w1)) (cut w1 (0 + List.length w1) (List.length w1 - List.length w1)), D.s (0) (3) (cut w2 (0) (List.length w2)) (cut w2 (0 + List.length w2) (List.length w2 - List.length w2)), D.s (0) (3) (cut w3 (0) (List.length w3)) (cut w3 (0 + List.length w3) (List.length w3 - List.length w3)), vN (0), vN (0), vN (0), vN (0), vN c.ce, D.s (0) (17) [] [], D.s (0) (4) [] []]] [DV.agg (macL (0) ⟨(mhW w0 w1 w2 w3 c.ce).w0, (mhW w0 w1 w2 w3 c.ce).w1, (mhW w0 w1 w2 w3 c.ce).w2, (mhW w0 w1 w2 w3 c.ce).w3, (mhW w0 w1 w2 w3 c.ce).c0, (mhW w0 w1 w2 w3 c.ce).c1, (mhW w0 w1 w2 w3 c.ce).c2, (mhW w0 w1 w2 w3 c.ce).c3, (mhW w0 w1 w2 w3 c.ce).ce, (mhW w0 w1 w2 w3 c.ce).tr⟩ ss)] ∧ bif !t then K (DV.tup [DV.agg mac0, I (1200)]) else whole (List.length w0) w0 ∧ whole (List.length w1) w1 ∧ whole (List.length w2) w2 ∧ whole (List.length w3) w3 ∧ K (DV.tup [DV.agg [D.s (1) (3) w0 [], D.s (1) (3) w1 [], D.s (1) (3) w2 [], D.s (1) (3) w3 [], vN (0), vN (0), vN (0), vN (0), vN c.ce, nilV, nilV], I (0)]) else False else False else False else False) ∧ (z = false → bif e1 != 0 then K (DV.tup [DV.agg mac0, I (1200)]) else bif decide (0 + List.length w0 ≤ List.length w0) then bif decide (0 + List.length w1 ≤ List.length w1) then bif decide (0 + List.length w2 ≤ List.length w2) then bif decide (0 + List.length w3 ≤ List.length w3) then bif decide (0 + n ≤ List.length R) then Zn2 [DV.agg [D.s (0) (3) (cut w0 (0) (List.length w0)) (cut w0 (0 + List.length w0) (List.length w0 - List.length w0)), D.s (0) (3) (cut w1 (0) (List.length w1)) (cut w1 (0 + List.length w1) (List.length w1 - List.length w1)), D.s (0) (3) (cut w2 (0) (List.length w2)) (cut w2 (0 + List.length w2) (List.length w2 - List.length w2)), D.s (0) (3) (cut w3 (0) (List.length w3)) (cut w3 (0 + List.length w3) (List.length w3 - List.length w3)), vN (0), vN (0), vN (0), vN (0), vN c.ce, D.s (0) (17) (cut R (0) n) (cut R (0 + n) (n - n)), D.s (0) (4) [] []]] [DV.agg (macL (0) ⟨(mhW w0 w1 w2 w3 c.ce).w0, (mhW w0 w1 w2 w3 c.ce).w1, (mhW w0 w1 w2 w3 c.ce).w2, (mhW w0 w1 w2 w3 c.ce).w3, (mhW w0 w1 w2 w3 c.ce).c0, (mhW w0 w1 w2 w3 c.ce).c1, (mhW w0 w1 w2 w3 c.ce).c2, (mhW w0 w1 w2 w3 c.ce).c3, (mhW w0 w1 w2 w3 c.ce).ce, (mhW w0 w1 w2 w3 c.ce).tr⟩ ss)] ∧ bif !t then K (DV.tup [DV.agg mac0, I (1200)]) else whole (List.length w0) w0 ∧ whole (List.length w1) w1 ∧ whole (List.length w2) w2 ∧ whole (List.length w3) w3 ∧ whole n R ∧ K (DV.tup [DV.agg [D.s (1) (3) w0 [], D.s (1) (3) w1 [], D.s (1) (3) w2 [], D.s (1) (3) w3 [], vN (0), vN (0), vN (0), vN (0), vN c.ce, D.s (1) (17) R [], nilV], I (0)]) else False else False else False else False else False)) := by kernel_rfl
def Zd9 (c : ScrD) (w0 w1 w2 w3 : List (List D)) (r e i : Int) (W0 W1 W2 W3 : List (List D)) : X := ⟨mkT 54 [(1, .c (.rp 2 0 7 0 0)), (2, .c (.rp 3 0 11 0 0)), (3, ai r), (5, ai e), (6, .c (.rp 7 0 11 0 0)), (7, ai i)], [(2, .bx 0 7 ((scrL 0 c).map C.d)), (3, .bx 0 11 (mac0.map C.d)), (7, .bx 0 11 [.rs 14000 0 3 0 w0.length w0.length, .rs 14001 0 3 0 w1.length w1.length, .rs 14002 0 3 0 w2.length w2.length, .rs 14003 0 3 0 w3.length w3.length, ci 0, ci 0, ci 0, ci 0, ci c.ce, .d nilV, .d nilV]), (14000, .sl 0 3 W0), (14001, .sl 0 3 W1), (14002, .sl 0 3 W2), (14003, .sl 0 3 W3)], [], []⟩
abbrev Zl2 (c : ScrD) (w0 w1 w2 w3 : List (List D)) (r e i : Int) : X := Zd9 c w0 w1 w2 w3 r e i w0 w1 w2 w3
def stRw (c : ScrD) (w0 w1 w2 w3 : List (List D)) (r e i : Int) (n m : Nat) (R : List (List D)) : X := ⟨mkT 54 [(1, .c (.rp 2 0 7 0 0)), (2, .c (.rp 3 0 11 0 0)), (3, ai r), (5, ai e), (6, .c (.rp 7 0 11 0 0)), (7, ai i)], [(2, .bx 0 7 ((scrL 0 c).map C.d)), (3, .bx 0 11 (mac0.map C.d)), (7, .bx 0 11 [.rs 14000 0 3 0 w0.length w0.length, .rs 14001 0 3 0 w1.length w1.length, .rs 14002 0 3 0 w2.length w2.length, .rs 14003 0 3 0 w3.length w3.length, ci 0, ci 0, ci 0, ci 0, ci c.ce, .rs 44 0 17 0 n m, .d nilV]), (14000, .sl 0 3 w0), (14001, .sl 0 3 w1), (14002, .sl 0 3 w2), (14003, .sl 0 3 w3), (44, .sl 0 17 R)], [], []⟩
def vRw (c : ScrD) (w0 w1 w2 w3 : List (List D)) : Vw := fun y K => wI y 3 fun r => wI y 5 fun e => wI y 7 fun i => wR y 7 fun b => wCn 9 b fun d => cS d fun n m => wL y 44 fun R => K (stRw c w0 w1 w2 w3 r e i n m R)
theorem Zr5 (c : ScrD) (w0 w1 w2 w3 : List (List D)) : VwOK (vRw c w0 w1 w2 w3) := fun y K q => by
  unfold vRw at q
  obtain ⟨r, q⟩ := Za7 q
  obtain ⟨e, q⟩ := Za7 q
  obtain ⟨i, q⟩ := Za7 q
  obtain ⟨b, q⟩ := Zq6 q
  obtain ⟨d, q⟩ := ZjZ q
  obtain ⟨n, m, q⟩ := Zqs q
  obtain ⟨R, q⟩ := Zb8 q
  exact ⟨_, q⟩
def vRwe (c : ScrD) (w0 w1 w2 w3 : List (List D)) (n m : Nat) (R : List (List D)) : Vw := fun y K => wI y 3 fun r => wI y 5 fun e => wI y 7 fun i => K (stRw c w0 w1 w2 w3 r e i n m R)
theorem Zs6 (c : ScrD) (w0 w1 w2 w3 : List (List D)) (n m : Nat) (R : List (List D)) : VwOK (vRwe c w0 w1 w2 w3 n m R) := fun y K q => by
  unfold vRwe at q
  obtain ⟨r, q⟩ := Za7 q
  obtain ⟨e, q⟩ := Za7 q
  obtain ⟨i, q⟩ := Za7 q
  exact ⟨_, q⟩
def vRwz (c : ScrD) (w0 w1 w2 w3 : List (List D)) : Vw := fun y K => wI y 3 fun r => wI y 5 fun e => wI y 7 fun i => K (Zl2 c w0 w1 w2 w3 r e i)
theorem ZsG (c : ScrD) (w0 w1 w2 w3 : List (List D)) : VwOK (vRwz c w0 w1 w2 w3) := fun y K q => by
  unfold vRwz at q
  obtain ⟨r, q⟩ := Za7 q
  obtain ⟨e, q⟩ := Za7 q
  obtain ⟨i, q⟩ := Za7 q
  exact ⟨_, q⟩
theorem rRw0 (c : ScrD) (w0 w1 w2 w3 : List (List D)) (e : Int) (Nn : X → Prop) (E : Exit → X → Prop) : (ZaX Tryz.prog (hkC [(51, ZcE)] [] [] []) Tryz.f21 0 [] [1, 2, 3, 5, 6, 7] [2, 3, 7, 14000, 14001, 14002, 14003, 44] (vRw c w0 w1 w2 w3) (fun _ => vRwz c w0 w1 w2 w3) Nn E (Zl2 c w0 w1 w2 w3 0 e 0)) = (bif decide (0 < @Nat.cast Int _ (List.length (List.map (staL (0)) c.sts))) then bif true && decide (0 < @Nat.cast Int _ (List.length (List.map (staL (0)) c.sts))) then ∃ s, Zd6 (List.map (staL (0)) c.sts) (0) (0) s ∧ bif okSt s then bif Zcx s then foAt (0) (0) (1) ∧ whole (List.length (newS s).pg) ((newS s).pg ++ []) ∧ foAt (0) (0) (1) ∧ whole (0) [] ∧ foAt (0) (0) (1) ∧ whole (0) [] ∧ stRw c w0 w1 w2 w3 (0) e (1) (1) (1) [(sesL (1) { newS s with pg := (newS s).pg ++ [], rd := [], wt := [] })] = stRw c w0 w1 w2 w3 (0) e (1) (1) (1) [(sesL (1) { newS s with pg := (newS s).pg ++ [], rd := [], wt := [] })] ∧ Nn (stRw c w0 w1 w2 w3 (0) e (1) (1) (1) [(sesL (1) { newS s with pg := (newS s).pg ++ [], rd := [], wt := [] })]) else Zd9 c w0 w1 w2 w3 (1200) e (0) w0 w1 w2 w3 = Zd9 c w0 w1 w2 w3 (1200) e (0) w0 w1 w2 w3 ∧ E Exit.ret (Zd9 c w0 w1 w2 w3 (1200) e (0) w0 w1 w2 w3) else False else False else Zd9 c w0 w1 w2 w3 (0) e (0) w0 w1 w2 w3 = Zd9 c w0 w1 w2 w3 (0) e (0) w0 w1 w2 w3 ∧ E (Exit.exit (0)) (Zd9 c w0 w1 w2 w3 (0) e (0) w0 w1 w2 w3)) := by kernel_rfl
theorem rRw1 (c : ScrD) (w0 w1 w2 w3 : List (List D)) (e : Int) (i : Int) (n m : Nat) (R : List (List D)) (Nn : X → Prop) (E : Exit → X → Prop) : (ZaX Tryz.prog (hkC [(51, ZcE)] [] [] []) Tryz.f21 0 [] [1, 2, 3, 5, 6, 7] [2, 3, 7, 14000, 14001, 14002, 14003, 44] (vRw c w0 w1 w2 w3) (fun _ => vRwe c w0 w1 w2 w3 n m R) Nn E (stRw c w0 w1 w2 w3 0 e i n m R)) = (bif decide (i < @Nat.cast Int _ (List.length (List.map (staL (0)) c.sts))) then bif decide (0 ≤ i) && decide (i < @Nat.cast Int _ (List.length (List.map (staL (0)) c.sts))) then ∃ s, Zd6 (List.map (staL (0)) c.sts) (Int.toNat i) (0) s ∧ bif okSt s then bif Zcx s then n = List.length R ∧ bif decide ((n + 1) * 184 ≤ 140737488355328) && decide (n + 1 ≤ 9223372036854775807) then foAt n n (List.length (R ++ [[]])) ∧ whole (List.length (newS s).pg) ((newS s).pg ++ []) ∧ foAt n n (List.length (R ++ [[]])) ∧ whole (0) [] ∧ foAt n n (List.length (R ++ [[]])) ∧ whole (0) [] ∧ stRw c w0 w1 w2 w3 (0) e (IntKind.wrap IntKind.i64 (i + 1)) (n + 1) (n + 1) (List.set (R ++ [[]]) n (sesL (1) { newS s with pg := (newS s).pg ++ [], rd := [], wt := [] })) = stRw c w0 w1 w2 w3 (0) e (IntKind.wrap IntKind.i64 (i + 1)) (n + 1) (n + 1) (List.set (R ++ [[]]) n (sesL (1) { newS s with pg := (newS s).pg ++ [], rd := [], wt := [] })) ∧ Nn (stRw c w0 w1 w2 w3 (0) e (IntKind.wrap IntKind.i64 (i + 1)) (n + 1) (n + 1) (List.set (R ++ [[]]) n (sesL (1) { newS s with pg := (newS s).pg ++ [], rd := [], wt := [] }))) else False else stRw c w0 w1 w2 w3 (1200) e i n m R = stRw c w0 w1 w2 w3 (1200) e i n m R ∧ E Exit.ret (stRw c w0 w1 w2 w3 (1200) e i n m R) else False else False else stRw c w0 w1 w2 w3 (0) e i n m R = stRw c w0 w1 w2 w3 (0) e i n m R ∧ E (Exit.exit (0)) (stRw c w0 w1 w2 w3 (0) e i n m R)) := by kernel_rfl
def fRw (c : ScrD) (w0 w1 w2 w3 : List (List D)) (e0 : Int) (bad : Bool) (z : Bool) (r1 e1 i1 : Int) (n : Nat) (R : List (List D)) : LSum := fun Q x => wL x 14000 fun W0 => wL x 14001 fun W1 => wL x 14002 fun W2 => wL x 14003 fun W3 => W0 = w0 ∧ W1 = w1 ∧ W2 = w2 ∧ W3 = w3 ∧ x.arr [1, 2, 3, 5, 6, 7] [2, 3, 7, 14000, 14001, 14002, 14003, 44] = Zd9 c w0 w1 w2 w3 0 e0 0 W0 W1 W2 W3 ∧ (bad = true → ((z = true → Q .ret (Zl2 c w0 w1 w2 w3 r1 e1 i1)) ∧ (z = false → Q .ret (stRw c w0 w1 w2 w3 r1 e1 i1 n n R)))) ∧ (bad = false → ((z = true → Q (.exit 0) (Zl2 c w0 w1 w2 w3 r1 e1 i1)) ∧ (z = false → Q (.exit 0) (stRw c w0 w1 w2 w3 r1 e1 i1 n n R))))
theorem eRw (c : ScrD) (w0 w1 w2 w3 : List (List D)) (e0 : Int) (bad : Bool) (z : Bool) (r1 e1 i1 : Int) (n : Nat) (R : List (List D)) (ss : List SesD) (t : Bool) (K : DV → Prop) : (askW Tryz.prog (hkC [(50, sAtD [.agg [.s 0 1 c.v0 [], .s 0 1 c.v1 [], .s 0 1 c.v2 [], .s 0 1 c.v3 []]] (.tup [dO w0 w1 w2 w3, I e0])), (51, ZcE), (27, sAtL [.agg (macL 0 (mhW w0 w1 w2 w3 c.ce) ss)] (B t))] [] [] [(4, fRw c w0 w1 w2 w3 e0 bad z r1 e1 i1 n R)]) Tryz.f21 [.agg (scrL 0 c)] K) = ([DV.agg [D.s (0) (1) c.v0 [], D.s (0) (1) c.v1 [], D.s (0) (1) c.v2 [], D.s (0) (1) c.v3 []]] = [DV.agg [D.s (0) (1) c.v0 [], D.s (0) (1) c.v1 [], D.s (0) (1) c.v2 [], D.s (0) (1) c.v3 []]] ∧ w0 ++ [] = w0 ∧ w1 ++ [] = w1 ∧ w2 ++ [] = w2 ∧ w3 ++ [] = w3 ∧ Zd9 c w0 w1 w2 w3 (0) e0 (0) (w0 ++ []) (w1 ++ []) (w2 ++ []) (w3 ++ []) = Zd9 c w0 w1 w2 w3 (0) e0 (0) (w0 ++ []) (w1 ++ []) (w2 ++ []) (w3 ++ []) ∧ (bad = true → (z = true → K (DV.tup [DV.agg mac0, I r1])) ∧ (z = false → K (DV.tup [DV.agg mac0, I r1]))) ∧ (bad = false → (z = true → bif e1 != 0 then K (DV.tup [DV.agg mac0, I (1200)]) else bif decide (0 + List.length w0 ≤ List.length w0) then bif decide (0 + List.length w1 ≤ List.length w1) then bif decide (0 + List.length w2 ≤ List.length w2) then bif decide (0 + List.length w3 ≤ List.length w3) then Zn2 [DV.agg [D.s (0) (3) (cut w0 (0) (List.length w0)) (cut w0 (0 + List.length w0) (List.length w0 - List.length w0)), D.s (0) (3) (cut w1 (0) (List.length w1)) (cut w1 (0 + List.length w1) (List.length w1 - List.length w1)), D.s (0) (3) (cut w2 (0) (List.length w2)) (cut w2 (0 + List.length w2) (List.length w2 - List.length w2)), D.s (0) (3) (cut w3 (0) (List.length w3)) (cut w3 (0 + List.length w3) (List.length w3 - List.length w3)), vN (0), vN (0), vN (0), vN (0), vN c.ce, D.s (0) (17) [] [], D.s (0) (4) [] []]] [DV.agg (macL (0) ⟨(mhW w0 w1 w2 w3 c.ce).w0, (mhW w0 w1 w2 w3 c.ce).w1, (mhW w0 w1 w2 w3 c.ce).w2, (mhW w0 w1 w2 w3 c.ce).w3, (mhW w0 w1 w2 w3 c.ce).c0, (mhW w0 w1 w2 w3 c.ce).c1, (mhW w0 w1 w2 w3 c.ce).c2, (mhW w0 w1 w2 w3 c.ce).c3, (mhW w0 w1 w2 w3 c.ce).ce, (mhW w0 w1 w2 w3 c.ce).tr⟩ ss)] ∧ bif !t then K (DV.tup [DV.agg mac0, I (1200)]) else whole (List.length w0) w0 ∧ whole (List.length w1) w1 ∧ whole (List.length w2) w2 ∧ whole (List.length w3) w3 ∧ K (DV.tup [DV.agg [D.s (1) (3) w0 [], D.s (1) (3) w1 [], D.s (1) (3) w2 [], D.s (1) (3) w3 [], vN (0), vN (0), vN (0), vN (0), vN c.ce, nilV, nilV], I (0)]) else False else False else False else False) ∧ (z = false → bif e1 != 0 then K (DV.tup [DV.agg mac0, I (1200)]) else bif decide (0 + List.length w0 ≤ List.length w0) then bif decide (0 + List.length w1 ≤ List.length w1) then bif decide (0 + List.length w2 ≤ List.length w2) then bif decide (0 + List.length w3 ≤ List.length w3) then bif decide (0 + n ≤ List.length R) then Zn2 [DV.agg [D.s (0) (3) (cut w0 (0) (List.length w0)) (cut w0 (0 + List.length w0) (List.length w0 - List.length w0)), D.s (0) (3) (cut w1 (0) (List.length w1)) (cut w1 (0 + List.length w1) (List.length w1 - List.length w1)), D.s (0) (3) (cut w2 (0) (List.length w2)) (cut w2 (0 + List.length w2) (List.length w2 - List.length w2)), D.s (0) (3) (cut w3 (0) (List.length w3)) (cut w3 (0 + List.length w3) (List.length w3 - List.length w3)), vN (0), vN (0), vN (0), vN (0), vN c.ce, D.s (0) (17) (cut R (0) n) (cut R (0 + n) (n - n)), D.s (0) (4) [] []]] [DV.agg (macL (0) ⟨(mhW w0 w1 w2 w3 c.ce).w0, (mhW w0 w1 w2 w3 c.ce).w1, (mhW w0 w1 w2 w3 c.ce).w2, (mhW w0 w1 w2 w3 c.ce).w3, (mhW w0 w1 w2 w3 c.ce).c0, (mhW w0 w1 w2 w3 c.ce).c1, (mhW w0 w1 w2 w3 c.ce).c2, (mhW w0 w1 w2 w3 c.ce).c3, (mhW w0 w1 w2 w3 c.ce).ce, (mhW w0 w1 w2 w3 c.ce).tr⟩ ss)] ∧ bif !t then K (DV.tup [DV.agg mac0, I (1200)]) else whole (List.length w0) w0 ∧ whole (List.length w1) w1 ∧ whole (List.length w2) w2 ∧ whole (List.length w3) w3 ∧ whole n R ∧ K (DV.tup [DV.agg [D.s (1) (3) w0 [], D.s (1) (3) w1 [], D.s (1) (3) w2 [], D.s (1) (3) w3 [], vN (0), vN (0), vN (0), vN (0), vN c.ce, D.s (1) (17) R [], nilV], I (0)]) else False else False else False else False else False))) := by kernel_rfl
instance : Inhabited StD := ⟨⟨0, 0, 0, []⟩⟩
theorem Zdz {s : StD} (h : okSt s = true) : okZ 4 s.pg = true ∧ s.pg.length ≤ 4398046510977 := by
  unfold okSt at h; simpa [Bool.and_eq_true] using h
theorem ZlH {s : StD} (h : okSt s = true) : smS (newS s) = true := by
  obtain ⟨a, b⟩ := Zdz h
  have : smR 4398046510977 s.pg = true := ZcF a b (Nat.le_refl _)
  unfold smS
  show (smR 4398046510977 s.pg && _) = true
  rw [this]; rfl
theorem ZtE {s : SesD} (h : smS s = true) (e : Int) : (DV.tup [.agg (sesL 1 s), I e]).pureOwn = true := by
  have := Ze0 h
  simp only [DV.pureOwn, DV.pureOwn.go, this]
  rfl
theorem Zux {f : FuncId} (hs : Zad Tryz.prog f ZnZ) : Zad Tryz.prog f ZcE := fun ds Q h => by
  unfold ZcE at h; split at h
  · rename_i cs
    obtain ⟨h0, h⟩ := Zag h
    obtain ⟨a, b, c, d, h, r⟩ := Zgs h
    obtain ⟨h1, h⟩ := Zag h
    have hal : All2 AL [.agg cs] [.agg [vN a, vN b, vN c, .s 0 4 d []]] := .cons (.agg r h0 rfl) .nil
    have h1' : (okZ 4 d && decide (d.length ≤ 4398046510977)) = true := h1
    cases hm : Zcx ⟨a, b, c, d⟩ with
    | true =>
      rw [hm] at h
      have hm' : smay a b c (toZ d) = true := hm
      obtain ⟨hg, r0, hc, hp, hf, rfl⟩ := hs [.agg [vN a, vN b, vN c, .s 0 4 d []]] (fun r => r = .tup [Zl7 a b c (.s 1 4 d []), I 0]) (by
        show cond _ (cond _ _ _) _
        rw [h1', hm']; rfl)
      exact ⟨hg, _, (hc.args hal).res (.tup (.cons (.aggO (.cons (.refl _) (.cons (.refl _) (.cons (.refl _) (.cons (.refl _) (.cons (.refl _) (.cons (.refl _) (.cons (.refl _) (.cons (.refl _) (.cons (.refl _) (.cons (.refl _) (.cons (.nil 3) (.cons (.nil 3) (.cons (.refl _) (.cons (.refl _) (.cons (.refl _) (.cons (.refl _) (.cons (.refl _) .nil)))))))))))))))))) (.cons (.refl _) .nil))), .inl (ZtE (ZlH h1) 0), rfl, h⟩
    | false =>
      rw [hm] at h
      have hm' : smay a b c (toZ d) = false := hm
      obtain ⟨hg, r0, hc, hp, hf, rfl⟩ := hs [.agg [vN a, vN b, vN c, .s 0 4 d []]] (fun r => r = .tup [Zl7 0 0 0 nilD, I 1100]) (by
        show cond _ (cond _ _ _) _
        rw [h1', hm']; rfl)
      exact ⟨hg, _, (hc.args hal).res (.tup (.cons (.aggO (.cons (.refl _) (.cons (.refl _) (.cons (.refl _) (.cons (.nil 4) (.cons (.refl _) (.cons (.refl _) (.cons (.refl _) (.cons (.refl _) (.cons (.refl _) (.cons (.refl _) (.cons (.nil 3) (.cons (.nil 3) (.cons (.refl _) (.cons (.refl _) (.cons (.refl _) (.cons (.refl _) (.cons (.refl _) .nil)))))))))))))))))) (.cons (.refl _) .nil))), .inl rfl, rfl, h⟩
  · exact h.elim
theorem oSNw : Zad Tryz.prog 49 ZcE := Zux Zur
theorem oSRw : Zad Tryz.prog 51 ZcE := Zux ZrQ
def aOK (c : ScrD) : Bool := amay (toZ (mW c.v0)) (toZ (mW c.v1)) (toZ (mW c.v2)) (toZ (mW c.v3))
def wN (c : ScrD) (v : List (List D)) : List (List D) := bif aOK c then mW v else []
def eA (c : ScrD) : Int := bif aOK c then 0 else 400
theorem oAr {f : FuncId} (hs : Zad Tryz.prog f sNew) (c : ScrD) (hv : okV4 c.v0 c.v1 c.v2 c.v3 = true) : Zad Tryz.prog f (sAtD [.agg [.s 0 1 c.v0 [], .s 0 1 c.v1 [], .s 0 1 c.v2 [], .s 0 1 c.v3 []]] (.tup [dO (wN c c.v0) (wN c c.v1) (wN c c.v2) (wN c c.v3), I (eA c)])) := fun ds Q q => by
  obtain ⟨rfl, q⟩ := q
  unfold wN eA at q
  cases ha : aOK c with
  | true =>
    rw [ha] at q
    have ha' : amay (toZ (mW c.v0)) (toZ (mW c.v1)) (toZ (mW c.v2)) (toZ (mW c.v3)) = true := ha
    exact hs _ Q (by
      show cond _ (cond _ _ _) _
      rw [hv, ha']; exact q)
  | false =>
    rw [ha] at q
    have ha' : amay (toZ (mW c.v0)) (toZ (mW c.v1)) (toZ (mW c.v2)) (toZ (mW c.v3)) = false := ha
    obtain ⟨hg, r0, hc, hp, hf, rfl⟩ := hs [.agg [.s 0 1 c.v0 [], .s 0 1 c.v1 [], .s 0 1 c.v2 [], .s 0 1 c.v3 []]] (fun r => r = .tup [dNil, I 400]) (by
      show cond _ (cond _ _ _) _
      rw [hv, ha']; rfl)
    exact ⟨hg, _, hc.res (.tup (.cons (.aggO (.cons (.nil 3) (.cons (.nil 3) (.cons (.nil 3) (.cons (.nil 3) .nil))))) (.cons (.refl _) .nil))), .inl rfl, rfl, q⟩
def stN (sts : List StD) (i : Nat) : StD := sts.getD i default
theorem ZhQ {sts : List StD} {i t : Nat} (h : i < sts.length) : Zd6 (List.map (staL t) sts) i t (stN sts i) := by
  unfold Zd6 stN
  rw [List.getElem?_map, List.getD_eq_getElem?_getD, List.getElem?_eq_getElem h]; rfl
theorem Zi8 {sts : List StD} {i : Nat} (h : i < sts.length) : stN sts i ∈ sts := by
  unfold stN
  rw [List.getD_eq_getElem?_getD, List.getElem?_eq_getElem h]
  exact List.getElem_mem h
def Za2 (sts : List StD) : List (List D) := sts.map fun s => sesL 1 (newS s)
theorem ZeG (sts : List StD) : (Za2 sts).length = sts.length := List.length_map _
theorem ZdS {sts : List StD} {k : Nat} (h : k < sts.length) : Za2 (sts.take (k + 1)) = Za2 (sts.take k) ++ [sesL 1 (newS (stN sts k))] := by
  unfold Za2
  rw [List.take_add_one, List.map_append]
  congr 1
  unfold stN
  rw [List.getD_eq_getElem?_getD, List.getElem?_eq_getElem h]
  rfl
theorem Zpx (bad : Nat → Bool) : ∀ n, (∃ j, firstAt bad n j) ∨ noneTo bad n
  | 0 => .inr fun i h => by omega
  | n + 1 => by
    rcases Zpx bad n with ⟨j, h1, h2, h3⟩ | h
    · exact .inl ⟨j, by omega, h2, h3⟩
    · cases hb : bad n with
      | true => exact .inl ⟨n, by omega, hb, fun i hi => h i hi⟩
      | false =>
        refine .inr fun i hi => ?_
        rcases Nat.lt_succ_iff_lt_or_eq.1 hi with q | rfl
        · exact h i q
        · exact hb
theorem ZmC {bad : Nat → Bool} {n i j : Nat} (h : firstAt bad n i) (h' : firstAt bad n j) : i = j := by
  obtain ⟨a1, a2, a3⟩ := h
  obtain ⟨b1, b2, b3⟩ := h'
  rcases Nat.lt_trichotomy i j with q | q | q
  · rw [b3 i q] at a2; cases a2
  · exact q
  · rw [a3 j q] at b2; cases b2
def badS (sts : List StD) (i : Nat) : Bool := !Zcx (stN sts i)
theorem ZmU {sts : List StD} (h : noneTo (badS sts) sts.length) : sts.all Zcx = true := by
  rw [List.all_eq_true]
  intro s hs
  obtain ⟨i, hi, rfl⟩ := List.mem_iff_getElem.1 hs
  have := h i hi
  unfold badS stN at this
  rw [List.getD_eq_getElem?_getD, List.getElem?_eq_getElem hi] at this
  simpa using this
theorem ZkN {sts : List StD} {j : Nat} (h : firstAt (badS sts) sts.length j) : sts.all Zcx = false := by
  obtain ⟨h1, h2, _⟩ := h
  rw [List.all_eq_false]
  refine ⟨stN sts j, Zi8 h1, ?_⟩
  unfold badS at h2
  simpa using h2
def St1 (c : ScrD) (w0 w1 w2 w3 : List (List D)) (e : Int) : Nat → X
  | 0 => ZiF c w0 w1 w2 w3 0 e 0
  | k + 1 => stNw c w0 w1 w2 w3 0 e ((k + 1 : Nat) : Int) (k + 1) (k + 1) (Za2 (c.sts.take (k + 1)))
def St2 (c : ScrD) (w0 w1 w2 w3 : List (List D)) (r e : Int) : Nat → X
  | 0 => Zl2 c w0 w1 w2 w3 r e 0
  | k + 1 => stRw c w0 w1 w2 w3 r e ((k + 1 : Nat) : Int) (k + 1) (k + 1) (Za2 (c.sts.take (k + 1)))
def VE1 (c : ScrD) (w0 w1 w2 w3 : List (List D)) : Nat → Vw
  | 0 => vNwz c w0 w1 w2 w3
  | k + 1 => vNwe c w0 w1 w2 w3 (k + 1) (k + 1) (Za2 (c.sts.take (k + 1)))
def VE2 (c : ScrD) (w0 w1 w2 w3 : List (List D)) : Nat → Vw
  | 0 => vRwz c w0 w1 w2 w3
  | k + 1 => vRwe c w0 w1 w2 w3 (k + 1) (k + 1) (Za2 (c.sts.take (k + 1)))
theorem ZrM (c : ScrD) (w0 w1 w2 w3 : List (List D)) : ∀ k, VwOK (VE1 c w0 w1 w2 w3 k)
  | 0 => Zms c w0 w1 w2 w3
  | k + 1 => Zti c w0 w1 w2 w3 _ _ _
theorem Zsc (c : ScrD) (w0 w1 w2 w3 : List (List D)) : ∀ k, VwOK (VE2 c w0 w1 w2 w3 k)
  | 0 => ZsG c w0 w1 w2 w3
  | k + 1 => Zs6 c w0 w1 w2 w3 _ _ _
theorem kNg {c : ScrD} {w0 w1 w2 w3 : List (List D)} (hs : c.sts.all okSt = true) (hb : c.sts.length * 184 ≤ 140737488351232) {z : Bool} {r1 e1 i1 : Int} {n : Nat} {R : List (List D)}
    (ho : ∀ j (e : Int), (firstAt (badS c.sts) c.sts.length j ∧ e = 1100) ∨ (j = c.sts.length ∧ noneTo (badS c.sts) c.sts.length ∧ e = 0) → r1 = 0 ∧ e1 = e ∧ i1 = j ∧ n = j ∧ z = Nat.beq j 0 ∧ R = Za2 (c.sts.take j))
    (Q : Exit → X → Prop) (x : X) (hq : fNw c w0 w1 w2 w3 0 z r1 e1 i1 n R Q x) : XWP Tryz.prog (.loop (Zal Tryz.f20 0)) Q x := by
  unfold fNw at hq
  obtain ⟨W0, hq⟩ := Zb8 hq
  obtain ⟨W1, hq⟩ := Zb8 hq
  obtain ⟨W2, hq⟩ := Zb8 hq
  obtain ⟨W3, rfl, rfl, rfl, rfl, hx, hq1, hq2⟩ := Zb8 hq
  have q1 := List.all_eq_true.1 hs
  have hH : Zam Tryz.prog (hkC [(49, ZcE)] [] [] []) := Zh5 (.cons oSNw .nil) .nil .nil
  have fin : ∀ j (e : Int), (firstAt (badS c.sts) c.sts.length j ∧ e = 1100) ∨ (j = c.sts.length ∧ noneTo (badS c.sts) c.sts.length ∧ e = 0) → Q (.exit 0) (St1 c W0 W1 W2 W3 e j) := fun j e h => by
    obtain ⟨rfl, rfl, rfl, rfl, rfl, rfl⟩ := ho j e h
    cases n with
    | zero => exact hq1 rfl
    | succ k => exact hq2 rfl
  refine Zf5 (sw := []) mixed (St1 c W0 W1 W2 W3 0) (St1 c W0 W1 W2 W3 1100) c.sts.length (badS c.sts) (.exit 0) (.exit 0) (fun i hi _ => ⟨_, vNw c W0 W1 W2 W3, fun _ => VE1 c W0 W1 W2 W3 i, hH, Zae rfl, Zm0 _ _ _ _ _, fun _ => ZrM _ _ _ _ _ i, fun N E p q => ?_⟩) (fun _ => ⟨_, vNw c W0 W1 W2 W3, fun _ => VE1 c W0 W1 W2 W3 c.sts.length, hH, Zae rfl, Zm0 _ _ _ _ _, fun _ => ZrM _ _ _ _ _ _, fun N E q => ?_⟩) Q x ⟨hx, fun i hf => fin i 1100 (.inl ⟨hf, rfl⟩), fun hn => fin _ 0 (.inr ⟨rfl, hn, rfl⟩)⟩
  · have hat : Zd6 (List.map (staL 0) c.sts) i 0 (stN c.sts i) := ZhQ hi
    have hok : okSt (stN c.sts i) = true := q1 _ (Zi8 hi)
    have w1' := ZaN (ZcL (ZaD (ZlH hok)).1)
    have e0 : whole 0 [] := ⟨rfl, rfl⟩
    unfold badS at p q
    cases i with
    | zero =>
      show ZaX Tryz.prog _ _ _ _ _ _ _ (fun _ => vNwz c W0 W1 W2 W3) _ _ (ZiF c W0 W1 W2 W3 0 0 0)
      rw [rNw0]
      have c0 : decide (0 < @Nat.cast Int _ (List.length (List.map (staL 0) c.sts))) = true := by rw [List.length_map]; simp; omega
      simp only [c0, cond_true, Bool.and_self]
      refine ⟨_, hat, ?_⟩
      rw [hok]
      cases hm : Zcx (stN c.sts 0) with
      | true =>
        rw [hm] at q
        have q := q rfl
        have q3 : N (stNw c W0 W1 W2 W3 0 0 ((0 + 1 : Nat) : Int) (0 + 1) (0 + 1) (Za2 (c.sts.take (0 + 1)))) := q
        rw [ZdS hi] at q3
        simp only [cond_true, List.append_nil]
        refine ⟨ZaR.2 ⟨rfl, by decide⟩, w1', ZaR.2 ⟨rfl, by decide⟩, e0, ZaR.2 ⟨rfl, by decide⟩, e0, trivial, ?_⟩
        exact q3
      | false =>
        rw [hm] at p
        have p := p rfl
        simp only [cond_true, cond_false]
        exact ⟨trivial, p⟩
    | succ k =>
      show ZaX Tryz.prog _ _ _ _ _ _ _ (fun _ => vNwe c W0 W1 W2 W3 (k + 1) (k + 1) (Za2 (c.sts.take (k + 1)))) _ _ (stNw c W0 W1 W2 W3 0 0 ((k + 1 : Nat) : Int) (k + 1) (k + 1) (Za2 (c.sts.take (k + 1))))
      rw [rNw1]
      have wi : IntKind.wrap IntKind.i64 (((k + 1 : Nat) : Int) + 1) = ((k + 1 + 1 : Nat) : Int) := Zaj (n := 1) (by omega)
      have c0 : decide (((k + 1 : Nat) : Int) < @Nat.cast Int _ (List.length (List.map (staL 0) c.sts))) = true := by rw [List.length_map]; simp; omega
      have c1 : decide (0 ≤ ((k + 1 : Nat) : Int)) = true := by simp; omega
      have el : (Za2 (c.sts.take (k + 1))).length = k + 1 := by rw [ZeG, List.length_take]; omega
      have c2 : (decide ((k + 1 + 1) * 184 ≤ 140737488355328) && decide (k + 1 + 1 ≤ 9223372036854775807)) = true := by simp; omega
      simp only [c0, c1, cond_true, Bool.and_self]
      refine ⟨_, hat, ?_⟩
      rw [hok]
      cases hm : Zcx (stN c.sts (k + 1)) with
      | true =>
        rw [hm] at q
        have q := q rfl
        simp only [cond_true, List.append_nil]
        refine ⟨el.symm, ?_⟩
        rw [c2]
        have hl : k + 1 < (Za2 (c.sts.take (k + 1)) ++ [[]]).length := by rw [List.length_append, el]; simp
        refine ⟨ZaR.2 ⟨rfl, hl⟩, w1', ZaR.2 ⟨rfl, hl⟩, e0, ZaR.2 ⟨rfl, hl⟩, e0, trivial, ?_⟩
        have es : List.set (Za2 (c.sts.take (k + 1)) ++ [[]]) (k + 1) (sesL 1 (newS (stN c.sts (k + 1)))) = Za2 (c.sts.take (k + 1 + 1)) := by
          rw [ZdS hi, List.set_append_right _ _ (by omega), el, Nat.sub_self]; rfl
        show N (stNw c W0 W1 W2 W3 0 0 (IntKind.wrap IntKind.i64 (((k + 1 : Nat) : Int) + 1)) (k + 1 + 1) (k + 1 + 1) (List.set (Za2 (c.sts.take (k + 1)) ++ [[]]) (k + 1) (sesL 1 (newS (stN c.sts (k + 1))))))
        rw [wi, es]
        exact q
      | false =>
        rw [hm] at p
        have p := p rfl
        simp only [cond_true, cond_false]
        exact ⟨trivial, p⟩
  · cases hn : c.sts.length with
    | zero =>
      rw [hn] at q
      show ZaX Tryz.prog _ _ _ _ _ _ _ (fun _ => vNwz c W0 W1 W2 W3) _ _ (ZiF c W0 W1 W2 W3 0 0 0)
      rw [rNw0]
      have c0 : decide (0 < @Nat.cast Int _ (List.length (List.map (staL 0) c.sts))) = false := by rw [List.length_map, hn]; rfl
      simp only [c0, cond_false, true_and]
      exact q
    | succ k =>
      rw [hn] at q
      show ZaX Tryz.prog _ _ _ _ _ _ _ (fun _ => vNwe c W0 W1 W2 W3 (k + 1) (k + 1) (Za2 (c.sts.take (k + 1)))) _ _ (stNw c W0 W1 W2 W3 0 0 ((k + 1 : Nat) : Int) (k + 1) (k + 1) (Za2 (c.sts.take (k + 1))))
      rw [rNw1]
      have c0 : decide (((k + 1 : Nat) : Int) < @Nat.cast Int _ (List.length (List.map (staL 0) c.sts))) = false := by rw [List.length_map, hn]; simp
      simp only [c0, cond_false, true_and]
      exact q
theorem kNb {c : ScrD} {w0 w1 w2 w3 : List (List D)} (hs : c.sts.all okSt = true) {e1 : Int} {n : Nat} {R : List (List D)} (he : e1 = (match c.sts with | [] => 400 | s :: _ => bif Zcx s then 400 else 1100))
    (Q : Exit → X → Prop) (x : X) (hq : fNw c w0 w1 w2 w3 400 true 0 e1 0 n R Q x) : XWP Tryz.prog (.loop (Zal Tryz.f20 0)) Q x := by
  unfold fNw at hq
  obtain ⟨W0, hq⟩ := Zb8 hq
  obtain ⟨W1, hq⟩ := Zb8 hq
  obtain ⟨W2, hq⟩ := Zb8 hq
  obtain ⟨W3, rfl, rfl, rfl, rfl, hx, hq1, _⟩ := Zb8 hq
  have hq1 := hq1 rfl
  have q1 := List.all_eq_true.1 hs
  have hH : Zam Tryz.prog (hkC [(49, ZcE)] [] [] []) := Zh5 (.cons oSNw .nil) .nil .nil
  have hz : ∀ (h : ∀ j, j < min c.sts.length 1 → true = false), c.sts = [] := fun h => by
    cases hc : c.sts with
    | nil => rfl
    | cons s l => exact Bool.noConfusion (h 0 (by rw [hc]; simp))
  refine Zf5 (sw := []) mixed (fun _ => ZiF c W0 W1 W2 W3 0 400 0) (fun _ => ZiF c W0 W1 W2 W3 0 e1 0) (min c.sts.length 1) (fun _ => true) (.exit 0) (.exit 0) (fun i hi _ => ⟨_, vNw c W0 W1 W2 W3, fun _ => vNwz c W0 W1 W2 W3, hH, Zae rfl, Zm0 _ _ _ _ _, fun _ => Zms _ _ _ _ _, fun N E p _ => ?_⟩) (fun h => ⟨_, vNw c W0 W1 W2 W3, fun _ => vNwz c W0 W1 W2 W3, hH, Zae rfl, Zm0 _ _ _ _ _, fun _ => Zms _ _ _ _ _, fun N E q => ?_⟩) Q x ⟨hx, fun i hf => hq1, fun hn => ?_⟩
  · have hi : 0 < c.sts.length := by omega
    have hat : Zd6 (List.map (staL 0) c.sts) 0 0 (stN c.sts 0) := ZhQ hi
    have hok : okSt (stN c.sts 0) = true := q1 _ (Zi8 hi)
    have p := p rfl
    rw [rNwb]
    have c0 : decide (0 < @Nat.cast Int _ (List.length (List.map (staL 0) c.sts))) = true := by rw [List.length_map]; simp; omega
    simp only [c0, cond_true, Bool.and_self]
    refine ⟨_, hat, ?_⟩
    rw [hok]
    have e2 : e1 = bif Zcx (stN c.sts 0) then 400 else 1100 := by
      rw [he]
      cases hc : c.sts with
      | nil => rw [hc] at hi; cases hi
      | cons s l => rfl
    rw [e2] at p
    cases hm : Zcx (stN c.sts 0) with
    | true => rw [hm] at p; exact ⟨trivial, p⟩
    | false => rw [hm] at p; exact ⟨trivial, p⟩
  · rw [rNwb]
    have c0 : decide (0 < @Nat.cast Int _ (List.length (List.map (staL 0) c.sts))) = false := by rw [hz h]; rfl
    simp only [c0, cond_false, true_and]
    exact q
  · have hc := hz hn
    have e2 : e1 = 400 := by rw [he, hc]
    rw [e2] at hq1
    exact hq1
theorem kRg {c : ScrD} {w0 w1 w2 w3 : List (List D)} (hs : c.sts.all okSt = true) (hb : c.sts.length * 184 ≤ 140737488351232) {e0 : Int} {bad z : Bool} {r1 e1 i1 : Int} {n : Nat} {R : List (List D)}
    (ho : ∀ j (r : Int) (bd : Bool), (firstAt (badS c.sts) c.sts.length j ∧ r = 1200 ∧ bd = true) ∨ (j = c.sts.length ∧ noneTo (badS c.sts) c.sts.length ∧ r = 0 ∧ bd = false) → bad = bd ∧ r1 = r ∧ e1 = e0 ∧ i1 = j ∧ n = j ∧ z = Nat.beq j 0 ∧ R = Za2 (c.sts.take j))
    (Q : Exit → X → Prop) (x : X) (hq : fRw c w0 w1 w2 w3 e0 bad z r1 e1 i1 n R Q x) : XWP Tryz.prog (.loop (Zal Tryz.f21 0)) Q x := by
  unfold fRw at hq
  obtain ⟨W0, hq⟩ := Zb8 hq
  obtain ⟨W1, hq⟩ := Zb8 hq
  obtain ⟨W2, hq⟩ := Zb8 hq
  obtain ⟨W3, rfl, rfl, rfl, rfl, hx, hq1, hq2⟩ := Zb8 hq
  have q1 := List.all_eq_true.1 hs
  have hH : Zam Tryz.prog (hkC [(51, ZcE)] [] [] []) := Zh5 (.cons oSRw .nil) .nil .nil
  have fin1 : ∀ j, firstAt (badS c.sts) c.sts.length j → Q .ret (St2 c W0 W1 W2 W3 1200 e0 j) := fun j h => by
    obtain ⟨rfl, rfl, rfl, rfl, rfl, rfl, rfl⟩ := ho j 1200 true (.inl ⟨h, rfl, rfl⟩)
    cases n with
    | zero => exact (hq1 rfl).1 rfl
    | succ k => exact (hq1 rfl).2 rfl
  have fin2 : noneTo (badS c.sts) c.sts.length → Q (.exit 0) (St2 c W0 W1 W2 W3 0 e0 c.sts.length) := fun h => by
    obtain ⟨rfl, rfl, rfl, rfl, hn, rfl, rfl⟩ := ho _ 0 false (.inr ⟨rfl, h, rfl, rfl⟩)
    subst hn
    cases hk : c.sts.length with
    | zero =>
      rw [hk] at hq2
      exact (hq2 rfl).1 rfl
    | succ k =>
      rw [hk] at hq2
      exact (hq2 rfl).2 rfl
  refine Zf5 (sw := []) mixed (St2 c W0 W1 W2 W3 0 e0) (St2 c W0 W1 W2 W3 1200 e0) c.sts.length (badS c.sts) .ret (.exit 0) (fun i hi _ => ⟨_, vRw c W0 W1 W2 W3, fun _ => VE2 c W0 W1 W2 W3 i, hH, Zae rfl, Zr5 _ _ _ _ _, fun _ => Zsc _ _ _ _ _ i, fun N E p q => ?_⟩) (fun _ => ⟨_, vRw c W0 W1 W2 W3, fun _ => VE2 c W0 W1 W2 W3 c.sts.length, hH, Zae rfl, Zr5 _ _ _ _ _, fun _ => Zsc _ _ _ _ _ _, fun N E q => ?_⟩) Q x ⟨hx, fun i hf => fin1 i hf, fin2⟩
  · have hat : Zd6 (List.map (staL 0) c.sts) i 0 (stN c.sts i) := ZhQ hi
    have hok : okSt (stN c.sts i) = true := q1 _ (Zi8 hi)
    have w1' := ZaN (ZcL (ZaD (ZlH hok)).1)
    have ez : whole 0 [] := ⟨rfl, rfl⟩
    unfold badS at p q
    cases i with
    | zero =>
      show ZaX Tryz.prog _ _ _ _ _ _ _ (fun _ => vRwz c W0 W1 W2 W3) _ _ (Zl2 c W0 W1 W2 W3 0 e0 0)
      rw [rRw0]
      have c0 : decide (0 < @Nat.cast Int _ (List.length (List.map (staL 0) c.sts))) = true := by rw [List.length_map]; simp; omega
      simp only [c0, cond_true, Bool.and_self]
      refine ⟨_, hat, ?_⟩
      rw [hok]
      cases hm : Zcx (stN c.sts 0) with
      | true =>
        rw [hm] at q
        have q := q rfl
        have q3 : N (stRw c W0 W1 W2 W3 0 e0 ((0 + 1 : Nat) : Int) (0 + 1) (0 + 1) (Za2 (c.sts.take (0 + 1)))) := q
        rw [ZdS hi] at q3
        simp only [cond_true, List.append_nil]
        refine ⟨ZaR.2 ⟨rfl, by decide⟩, w1', ZaR.2 ⟨rfl, by decide⟩, ez, ZaR.2 ⟨rfl, by decide⟩, ez, trivial, ?_⟩
        exact q3
      | false =>
        rw [hm] at p
        have p := p rfl
        simp only [cond_true, cond_false]
        exact ⟨trivial, p⟩
    | succ k =>
      show ZaX Tryz.prog _ _ _ _ _ _ _ (fun _ => vRwe c W0 W1 W2 W3 (k + 1) (k + 1) (Za2 (c.sts.take (k + 1)))) _ _ (stRw c W0 W1 W2 W3 0 e0 ((k + 1 : Nat) : Int) (k + 1) (k + 1) (Za2 (c.sts.take (k + 1))))
      rw [rRw1]
      have wi : IntKind.wrap IntKind.i64 (((k + 1 : Nat) : Int) + 1) = ((k + 1 + 1 : Nat) : Int) := Zaj (n := 1) (by omega)
      have c0 : decide (((k + 1 : Nat) : Int) < @Nat.cast Int _ (List.length (List.map (staL 0) c.sts))) = true := by rw [List.length_map]; simp; omega
      have c1 : decide (0 ≤ ((k + 1 : Nat) : Int)) = true := by simp; omega
      have el : (Za2 (c.sts.take (k + 1))).length = k + 1 := by rw [ZeG, List.length_take]; omega
      have c2 : (decide ((k + 1 + 1) * 184 ≤ 140737488355328) && decide (k + 1 + 1 ≤ 9223372036854775807)) = true := by simp; omega
      simp only [c0, c1, cond_true, Bool.and_self]
      refine ⟨_, hat, ?_⟩
      rw [hok]
      cases hm : Zcx (stN c.sts (k + 1)) with
      | true =>
        rw [hm] at q
        have q := q rfl
        simp only [cond_true, List.append_nil]
        refine ⟨el.symm, ?_⟩
        rw [c2]
        have hl : k + 1 < (Za2 (c.sts.take (k + 1)) ++ [[]]).length := by rw [List.length_append, el]; simp
        refine ⟨ZaR.2 ⟨rfl, hl⟩, w1', ZaR.2 ⟨rfl, hl⟩, ez, ZaR.2 ⟨rfl, hl⟩, ez, trivial, ?_⟩
        have es : List.set (Za2 (c.sts.take (k + 1)) ++ [[]]) (k + 1) (sesL 1 (newS (stN c.sts (k + 1)))) = Za2 (c.sts.take (k + 1 + 1)) := by
          rw [ZdS hi, List.set_append_right _ _ (by omega), el, Nat.sub_self]; rfl
        show N (stRw c W0 W1 W2 W3 0 e0 (IntKind.wrap IntKind.i64 (((k + 1 : Nat) : Int) + 1)) (k + 1 + 1) (k + 1 + 1) (List.set (Za2 (c.sts.take (k + 1)) ++ [[]]) (k + 1) (sesL 1 (newS (stN c.sts (k + 1))))))
        rw [wi, es]
        exact q
      | false =>
        rw [hm] at p
        have p := p rfl
        simp only [cond_true, cond_false]
        exact ⟨trivial, p⟩
  · cases hn : c.sts.length with
    | zero =>
      rw [hn] at q
      show ZaX Tryz.prog _ _ _ _ _ _ _ (fun _ => vRwz c W0 W1 W2 W3) _ _ (Zl2 c W0 W1 W2 W3 0 e0 0)
      rw [rRw0]
      have c0 : decide (0 < @Nat.cast Int _ (List.length (List.map (staL 0) c.sts))) = false := by rw [List.length_map, hn]; rfl
      simp only [c0, cond_false, true_and]
      exact q
    | succ k =>
      rw [hn] at q
      show ZaX Tryz.prog _ _ _ _ _ _ _ (fun _ => vRwe c W0 W1 W2 W3 (k + 1) (k + 1) (Za2 (c.sts.take (k + 1)))) _ _ (stRw c W0 W1 W2 W3 0 e0 ((k + 1 : Nat) : Int) (k + 1) (k + 1) (Za2 (c.sts.take (k + 1))))
      rw [rRw1]
      have c0 : decide (((k + 1 : Nat) : Int) < @Nat.cast Int _ (List.length (List.map (staL 0) c.sts))) = false := by rw [List.length_map, hn]; simp
      simp only [c0, cond_false, true_and]
      exact q
def newM (c : ScrD) : Mh := mhW (mW c.v0) (mW c.v1) (mW c.v2) (mW c.v3) c.ce
def Zd5 (c : ScrD) : Bool := aOK c && (c.sts.all Zcx && mmay (newM c) (c.sts.map newS))
theorem Zgv (sts : List StD) : Za2 sts = (sts.map newS).map (sesL 1) := by unfold Za2; rw [List.map_map]; rfl
theorem wN_w (c : ScrD) (v : List (List D)) (hv : okZ 1 v = true) : whole (List.length (wN c v)) (wN c v) := by
  refine ⟨rfl, ?_⟩
  unfold wN
  cases aOK c with
  | true => exact Zao (Zab (ZcO hv))
  | false => rfl
theorem ZrN (w0 w1 w2 w3 : List (List D)) (ce : Int) : AL (.tup [.agg [.s 1 3 w0 [], .s 1 3 w1 [], .s 1 3 w2 [], .s 1 3 w3 [], vN 0, vN 0, vN 0, vN 0, vN ce, nilV, nilV], I 0]) (macR (mhW w0 w1 w2 w3 ce) [] 0) :=
  .tup (.cons (.aggO (.cons (.refl _) (.cons (.refl _) (.cons (.refl _) (.cons (.refl _) (.cons (.refl _) (.cons (.refl _) (.cons (.refl _) (.cons (.refl _) (.cons (.refl _) (.cons (.nil 17) (.cons (.nil 4) .nil)))))))))))) (.cons (.refl _) .nil))
theorem Zos (w0 w1 w2 w3 : List (List D)) (ce : Int) (sts : List StD) : AL (.tup [.agg [.s 1 3 w0 [], .s 1 3 w1 [], .s 1 3 w2 [], .s 1 3 w3 [], vN 0, vN 0, vN 0, vN 0, vN ce, .s 1 17 (Za2 sts) [], nilV], I 0]) (macR (mhW w0 w1 w2 w3 ce) (sts.map newS) 0) := by
  rw [Zgv]
  exact .tup (.cons (.aggO (.cons (.refl _) (.cons (.refl _) (.cons (.refl _) (.cons (.refl _) (.cons (.refl _) (.cons (.refl _) (.cons (.refl _) (.cons (.refl _) (.cons (.refl _) (.cons (.refl _) (.cons (.nil 4) .nil)))))))))))) (.cons (.refl _) .nil))
theorem Zrz (w0 w1 w2 w3 : List (List D)) (ce : Int) (sts : List StD) : Zn2 [.agg [.s 0 3 w0 [], .s 0 3 w1 [], .s 0 3 w2 [], .s 0 3 w3 [], vN 0, vN 0, vN 0, vN 0, vN ce, .s 0 17 (Za2 sts) [], .s 0 4 [] []]] [.agg (macL 0 (mhW w0 w1 w2 w3 ce) (sts.map newS))] := by
  rw [Zgv]
  exact .cons (.agg (.cons (.refl _) (.cons (.refl _) (.cons (.refl _) (.cons (.refl _) (.cons (.refl _) (.cons (.refl _) (.cons (.refl _) (.cons (.refl _) (.cons (.refl _) (.cons (.rows (ZoZ _)) (.cons (.refl _) .nil))))))))))) rfl rfl) .nil
theorem Zg9 (sts : List StD) : whole sts.length (Za2 sts) := by
  have := ZiH (sts.map newS)
  rw [Zgv]
  exact ⟨by simp, this⟩
theorem okN {c : ScrD} (hv : okV4 c.v0 c.v1 c.v2 c.v3 = true) (hs : c.sts.all okSt = true) : okM (newM c) (c.sts.map newS) = true := by
  obtain ⟨⟨a, _⟩, ⟨b, _⟩, ⟨d, _⟩, e, _⟩ := Zb2 hv
  have h1 : okA (mW c.v0) (mW c.v1) (mW c.v2) (mW c.v3) = true := by
    unfold okA
    rw [ZcO a, ZcO b, ZcO d, ZcO e]; rfl
  have h2 : okSS (c.sts.map newS) = true := by
    unfold okSS
    rw [List.all_map, List.all_eq_true]
    intro s h
    have := (Zdz (List.all_eq_true.1 hs s h)).1
    show (okZ 4 s.pg && _) = true
    rw [this]; rfl
  have e : okM (newM c) (c.sts.map newS) = (okA (mW c.v0) (mW c.v1) (mW c.v2) (mW c.v3) && (okZ 4 [] && okSS (c.sts.map newS))) := rfl
  rw [e, h1, h2]; rfl
theorem cNew (c : ScrD) (hv : okV4 c.v0 c.v1 c.v2 c.v3 = true) (hs : c.sts.all okSt = true) (hb : c.sts.length * 184 ≤ 140737488351232) : CT Tryz.prog 20 [.agg (scrL 0 c)] (bif Zd5 c then macR (newM c) (c.sts.map newS) 0 else macE 1200) := by
  obtain ⟨⟨z0, _⟩, ⟨z1, _⟩, ⟨z2, _⟩, z3, _⟩ := Zb2 hv
  have k0 := wN_w c c.v0 z0
  have k1 := wN_w c c.v1 z1
  have k2 := wN_w c c.v2 z2
  have k3 := wN_w c c.v3 z3
  have hok := okN hv hs
  have hMay : Zad Tryz.prog 26 (sAtL [.agg (macL 0 (newM c) (c.sts.map newS))] (B (mmay (newM c) (c.sts.map newS)))) := oAtL Tryz.func26 (by kernel_rfl) rfl (Zpr _ _ hok) rfl rfl
  have hz : Zad Tryz.prog 26 (sAtL [.agg (macL 0 (mhW (wN c c.v0) (wN c c.v1) (wN c c.v2) (wN c c.v3) c.ce) (c.sts.map newS))] (B (mmay (mhW (wN c c.v0) (wN c c.v1) (wN c c.v2) (wN c c.v3) c.ce) (c.sts.map newS)))) := by
    refine oAtL Tryz.func26 (by kernel_rfl) rfl (Zpr _ _ ?_) rfl rfl
    unfold wN
    cases aOK c with
    | true => exact hok
    | false =>
      obtain ⟨_, _, q⟩ := Zby hok
      show (okA [] [] [] [] && (okZ 4 [] && okSS (c.sts.map newS))) = true
      rw [q]; rfl
  cases ha : aOK c with
  | false =>
    have er : Zd5 c = false := by unfold Zd5; rw [ha]; rfl
    have e4 : eA c = 400 := by unfold eA; rw [ha]; rfl
    have hlp : ZcR Tryz.prog Tryz.f20 [(4, fNw c (wN c c.v0) (wN c c.v1) (wN c c.v2) (wN c c.v3) (eA c) true 0 (match c.sts with | [] => 400 | s :: _ => bif Zcx s then 400 else 1100) 0 0 [])] := Zew (i := 0) (fun j hj _ => by have : j < 1 := hj; omega) (fun Q x hq => by rw [e4] at hq; exact kNb hs rfl Q x hq)
    refine Zjd (.cons (oAr oNew c hv) (.cons oSNw (.cons hz .nil))) .nil .nil mixed hlp Tryz.func20 rfl rfl rfl ?_
    rw [eNw, er]
    have ne : ((match c.sts with | [] => (400 : Int) | s :: _ => bif Zcx s then 400 else 1100) != 0) = true := by
      cases c.sts with
      | nil => rfl
      | cons s l => show ((bif Zcx s then (400 : Int) else 1100) != 0) = true; cases Zcx s <;> rfl
    refine ⟨⟨rfl, List.append_nil _, List.append_nil _, List.append_nil _, List.append_nil _, rfl, fun _ => ?_, fun h => by cases h⟩⟩
    rw [ne]
    exact Zd7 1200
  | true =>
    have e4 : eA c = 0 := by unfold eA; rw [ha]; rfl
    have wn : ∀ v, wN c v = mW v := fun v => by unfold wN; rw [ha]; rfl
    rcases Zpx (badS c.sts) c.sts.length with ⟨j, hj⟩ | hn
    · have er : Zd5 c = false := by unfold Zd5; rw [ZkN hj]; simp
      have hlp : ZcR Tryz.prog Tryz.f20 [(4, fNw c (wN c c.v0) (wN c c.v1) (wN c c.v2) (wN c c.v3) (eA c) (Nat.beq j 0) 0 1100 j j (Za2 (c.sts.take j)))] := Zew (i := 0) (fun j hj _ => by have : j < 1 := hj; omega) (fun Q x hq => by
        rw [e4] at hq
        refine kNg hs hb (fun j' e h => ?_) Q x hq
        rcases h with ⟨h, rfl⟩ | ⟨_, h, _⟩
        · obtain rfl := ZmC hj h
          exact ⟨rfl, rfl, rfl, rfl, rfl, rfl⟩
        · have := h j hj.1
          rw [hj.2.1] at this
          cases this)
      refine Zjd (.cons (oAr oNew c hv) (.cons oSNw (.cons hz .nil))) .nil .nil mixed hlp Tryz.func20 rfl rfl rfl ?_
      rw [eNw, er]
      exact ⟨⟨rfl, List.append_nil _, List.append_nil _, List.append_nil _, List.append_nil _, rfl, fun _ => Zd7 1200, fun _ => Zd7 1200⟩⟩
    · have hall := ZmU hn
      have hlp : ZcR Tryz.prog Tryz.f20 [(4, fNw c (wN c c.v0) (wN c c.v1) (wN c c.v2) (wN c c.v3) (eA c) (Nat.beq c.sts.length 0) 0 0 c.sts.length c.sts.length (Za2 c.sts))] := Zew (i := 0) (fun j hj _ => by have : j < 1 := hj; omega) (fun Q x hq => by
        rw [e4] at hq
        refine kNg hs hb (fun j' e h => ?_) Q x hq
        rcases h with ⟨h, rfl⟩ | ⟨rfl, _, rfl⟩
        · have := hn j' h.1
          rw [h.2.1] at this
          cases this
        · exact ⟨rfl, rfl, rfl, rfl, rfl, by rw [List.take_length]⟩)
      refine Zjd (.cons (oAr oNew c hv) (.cons oSNw (.cons hz .nil))) .nil .nil mixed hlp Tryz.func20 rfl rfl rfl ?_
      rw [eNw]
      rw [wn] at k0 k1 k2 k3
      rw [wn c.v0, wn c.v1, wn c.v2, wn c.v3]
      have er : Zd5 c = mmay (newM c) (c.sts.map newS) := by unfold Zd5; rw [ha, hall]; rfl
      have em : mhW (mW c.v0) (mW c.v1) (mW c.v2) (mW c.v3) c.ce = newM c := rfl
      rw [er, em]
      have le : Za2 c.sts = Za2 c.sts := rfl
      refine ⟨⟨rfl, List.append_nil _, List.append_nil _, List.append_nil _, List.append_nil _, rfl, fun hz => ?_, fun hz => ?_⟩⟩
      · have hnil : c.sts = [] := List.length_eq_zero_iff.1 (Zaa hz)
        have a := Zrz (mW c.v0) (mW c.v1) (mW c.v2) (mW c.v3) c.ce c.sts
        rw [hnil] at a ⊢
        simp only [Nat.zero_add, Nat.le_refl, decide_true, cond_true, Nat.sub_self, Zrd, Zq8, List.map_nil]
        refine ⟨a, ?_⟩
        cases mmay (newM c) [] with
        | false => exact Zd7 1200
        | true => exact ⟨k0, k1, k2, k3, ZrN _ _ _ _ _⟩
      · have a := Zrz (mW c.v0) (mW c.v1) (mW c.v2) (mW c.v3) c.ce c.sts
        have el := ZeG c.sts
        have ec : cut (Za2 c.sts) 0 c.sts.length = Za2 c.sts := Ze6 el
        have el2 : c.sts.length ≤ (Za2 c.sts).length := by rw [el]; exact Nat.le_refl _
        simp only [Nat.zero_add, Nat.le_refl, decide_true, cond_true, Nat.sub_self, Zrd, Zq8, ec, el2]
        refine ⟨a, ?_⟩
        cases mmay (newM c) (c.sts.map newS) with
        | false => exact Zd7 1200
        | true => exact ⟨k0, k1, k2, k3, Zg9 _, Zos _ _ _ _ _ _⟩
theorem Zwi (c : ScrD) (hv : okV4 c.v0 c.v1 c.v2 c.v3 = true) (hs : c.sts.all okSt = true) (hb : c.sts.length * 184 ≤ 140737488351232) : CT Tryz.prog 21 [.agg (scrL 0 c)] (bif Zd5 c then macR (newM c) (c.sts.map newS) 0 else macE 1200) := by
  obtain ⟨⟨z0, _⟩, ⟨z1, _⟩, ⟨z2, _⟩, z3, _⟩ := Zb2 hv
  have k0 := wN_w c c.v0 z0
  have k1 := wN_w c c.v1 z1
  have k2 := wN_w c c.v2 z2
  have k3 := wN_w c c.v3 z3
  have hok := okN hv hs
  have hz : Zad Tryz.prog 27 (sAtL [.agg (macL 0 (mhW (wN c c.v0) (wN c c.v1) (wN c c.v2) (wN c c.v3) c.ce) (c.sts.map newS))] (B (mmay (mhW (wN c c.v0) (wN c c.v1) (wN c c.v2) (wN c c.v3) c.ce) (c.sts.map newS)))) := by
    refine oAtL Tryz.func27 (by kernel_rfl) rfl (cRM _ _ ?_) rfl rfl
    unfold wN
    cases aOK c with
    | true => exact hok
    | false =>
      obtain ⟨_, _, q⟩ := Zby hok
      show (okA [] [] [] [] && (okZ 4 [] && okSS (c.sts.map newS))) = true
      rw [q]; rfl
  rcases Zpx (badS c.sts) c.sts.length with ⟨j, hj⟩ | hn
  · have er : Zd5 c = false := by unfold Zd5; rw [ZkN hj]; simp
    have hlp : ZcR Tryz.prog Tryz.f21 [(4, fRw c (wN c c.v0) (wN c c.v1) (wN c c.v2) (wN c c.v3) (eA c) true (Nat.beq j 0) 1200 (eA c) j j (Za2 (c.sts.take j)))] := Zew (i := 0) (fun j hj _ => by have : j < 1 := hj; omega) (fun Q x hq => by
      refine kRg hs hb (fun j' r bd h => ?_) Q x hq
      rcases h with ⟨h, rfl, rfl⟩ | ⟨_, h, _⟩
      · obtain rfl := ZmC hj h
        exact ⟨rfl, rfl, rfl, rfl, rfl, rfl, rfl⟩
      · have := h j hj.1
        rw [hj.2.1] at this
        cases this)
    refine Zjd (.cons (oAr Zto c hv) (.cons oSRw (.cons hz .nil))) .nil .nil mixed hlp Tryz.func21 rfl rfl rfl ?_
    rw [eRw, er]
    exact ⟨⟨rfl, List.append_nil _, List.append_nil _, List.append_nil _, List.append_nil _, rfl, fun _ => ⟨fun _ => Zd7 1200, fun _ => Zd7 1200⟩, fun h => by cases h⟩⟩
  · have hall := ZmU hn
    have hlp : ZcR Tryz.prog Tryz.f21 [(4, fRw c (wN c c.v0) (wN c c.v1) (wN c c.v2) (wN c c.v3) (eA c) false (Nat.beq c.sts.length 0) 0 (eA c) c.sts.length c.sts.length (Za2 c.sts))] := Zew (i := 0) (fun j hj _ => by have : j < 1 := hj; omega) (fun Q x hq => by
      refine kRg hs hb (fun j' r bd h => ?_) Q x hq
      rcases h with ⟨h, rfl, rfl⟩ | ⟨rfl, _, rfl, rfl⟩
      · have := hn j' h.1
        rw [h.2.1] at this
        cases this
      · exact ⟨rfl, rfl, rfl, rfl, rfl, rfl, by rw [List.take_length]⟩)
    refine Zjd (.cons (oAr Zto c hv) (.cons oSRw (.cons hz .nil))) .nil .nil mixed hlp Tryz.func21 rfl rfl rfl ?_
    rw [eRw]
    cases ha : aOK c with
    | false =>
      have er : Zd5 c = false := by unfold Zd5; rw [ha]; rfl
      have e4 : eA c = 400 := by unfold eA; rw [ha]; rfl
      rw [er, e4]
      exact ⟨⟨rfl, List.append_nil _, List.append_nil _, List.append_nil _, List.append_nil _, rfl, (fun h => by cases h), fun _ => ⟨fun _ => Zd7 1200, fun _ => Zd7 1200⟩⟩⟩
    | true =>
      have e4 : eA c = 0 := by unfold eA; rw [ha]; rfl
      have wn : ∀ v, wN c v = mW v := fun v => by unfold wN; rw [ha]; rfl
      rw [wn] at k0 k1 k2 k3
      rw [wn c.v0, wn c.v1, wn c.v2, wn c.v3]
      have er : Zd5 c = mmay (newM c) (c.sts.map newS) := by unfold Zd5; rw [ha, hall]; rfl
      have em : mhW (mW c.v0) (mW c.v1) (mW c.v2) (mW c.v3) c.ce = newM c := rfl
      rw [er, em, e4]
      refine ⟨⟨rfl, List.append_nil _, List.append_nil _, List.append_nil _, List.append_nil _, rfl, (fun h => by cases h), fun _ => ⟨fun hz => ?_, fun hz => ?_⟩⟩⟩
      · have hnil : c.sts = [] := List.length_eq_zero_iff.1 (Zaa hz)
        have a := Zrz (mW c.v0) (mW c.v1) (mW c.v2) (mW c.v3) c.ce c.sts
        rw [hnil] at a ⊢
        simp only [Nat.zero_add, Nat.le_refl, decide_true, cond_true, Nat.sub_self, Zrd, Zq8, List.map_nil]
        refine ⟨a, ?_⟩
        cases mmay (newM c) [] with
        | false => exact Zd7 1200
        | true => exact ⟨k0, k1, k2, k3, ZrN _ _ _ _ _⟩
      · have a := Zrz (mW c.v0) (mW c.v1) (mW c.v2) (mW c.v3) c.ce c.sts
        have el := ZeG c.sts
        have ec : cut (Za2 c.sts) 0 c.sts.length = Za2 c.sts := Ze6 el
        have el2 : c.sts.length ≤ (Za2 c.sts).length := by rw [el]; exact Nat.le_refl _
        simp only [Nat.zero_add, Nat.le_refl, decide_true, cond_true, Nat.sub_self, Zrd, Zq8, ec, el2]
        refine ⟨a, ?_⟩
        cases mmay (newM c) (c.sts.map newS) with
        | false => exact Zd7 1200
        | true => exact ⟨k0, k1, k2, k3, Zg9 _, Zos _ _ _ _ _ _⟩
end

section
open Go Go.Proofs
def kSta : List KT := [.int, .int, .int, .sl (List.replicate 4 .int) 32]
def kScr : List KT := [.sl (List.replicate 1 .int) 8, .sl (List.replicate 1 .int) 8, .sl (List.replicate 1 .int) 8, .sl (List.replicate 1 .int) 8, .int, .sl kSta 48, .sl (List.replicate 2 .int) 16]
theorem gSta {r : List D} (h : GoodL kSta r) : ∃ s, r = staL 0 s ∧ okSt s = true := by
  unfold kSta at h
  obtain ⟨x0, r0, rfl, g0⟩ := h.i
  obtain ⟨x1, r1, rfl, g1⟩ := g0.i
  obtain ⟨x2, r2, rfl, g2⟩ := g1.i
  obtain ⟨x3, r3, rfl, o3, bo3, g3⟩ := g2.rb
  obtain rfl := g3.nil_inv
  refine ⟨⟨x0, x1, x2, x3⟩, rfl, ?_⟩
  show (okZ 4 x3 && decide (x3.length ≤ 4398046510977)) = true
  rw [o3, decide_eq_true (by omega : x3.length ≤ 4398046510977)]; rfl
theorem ZtJ : ∀ rows : List (List D), (∀ r ∈ rows, GoodL kSta r) → ∃ ss : List StD, rows = ss.map (staL 0) ∧ ss.all okSt = true
  | [], _ => ⟨[], rfl, rfl⟩
  | r :: rows, h => by
    obtain ⟨s, rfl, hs⟩ := gSta (h r (by simp))
    obtain ⟨ss, rfl, hss⟩ := ZtJ rows fun r hr => h r (by simp [hr])
    exact ⟨s :: ss, rfl, by rw [List.all_cons, hs, hss]; rfl⟩
theorem Zkp {N t z : Nat} {rows sp : List (List D)} (h : Sh N (.s t z rows sp)) : rows.length ≤ N := by cases h with | s _ _ _ _ h _ => exact h
theorem Zm9 {R : List (List D)} (h : okZ 1 R = true) (hl : R.length ≤ 1048576) : okV R = true := by
  unfold okV
  rw [h, decide_eq_true (by omega : R.length ≤ 5864062014635)]; rfl
theorem gScr {r : List D} (h : GoodL kScr r) (hN : ShL 1048576 r) : ∃ c, r = scrL 0 c ∧ okV4 c.v0 c.v1 c.v2 c.v3 = true ∧ c.sts.all okSt = true ∧ c.sts.length * 184 ≤ 140737488351232 ∧ okZ 2 c.sl = true ∧ c.sl.length * 16 ≤ 140737488351232 := by
  unfold kScr at h
  obtain ⟨x0, r0, rfl, o0, bo0, g0⟩ := h.rb
  obtain ⟨x1, r1, rfl, o1, bo1, g1⟩ := g0.rb
  obtain ⟨x2, r2, rfl, o2, bo2, g2⟩ := g1.rb
  obtain ⟨x3, r3, rfl, o3, bo3, g3⟩ := g2.rb
  obtain ⟨x4, r4, rfl, g4⟩ := g3.i
  obtain ⟨d, r9, rfl, h9, g9⟩ := g4.cons_inv
  obtain ⟨rows, rfl, hb, _, hr⟩ := h9.sl_inv
  obtain ⟨ss, rfl, hss⟩ := ZtJ rows hr
  obtain ⟨x10, r10, rfl, o10, bo10, g10⟩ := g9.rb
  obtain rfl := g10.nil_inv
  obtain ⟨n0, hN⟩ := hN.cons_inv
  obtain ⟨n1, hN⟩ := hN.cons_inv
  obtain ⟨n2, hN⟩ := hN.cons_inv
  obtain ⟨n3, hN⟩ := hN.cons_inv
  obtain ⟨_, hN⟩ := hN.cons_inv
  obtain ⟨n5, hN⟩ := hN.cons_inv
  have n5 := Zkp n5
  rw [List.length_map] at n5
  refine ⟨⟨x0, x1, x2, x3, x4, ss, x10⟩, rfl, ?_, hss, by show ss.length * 184 ≤ _; omega, o10, bo10⟩
  show (okV x0 && (okV x1 && (okV x2 && okV x3))) = true
  rw [Zm9 o0 (Zkp n0), Zm9 o1 (Zkp n1), Zm9 o2 (Zkp n2), Zm9 o3 (Zkp n3)]; rfl
end

section
open Go Go.Proofs
theorem eRTl (h : Mh) (ss : List SesD) (s : SesD) (i k v : Int) (t : Bool) (K : DV → Prop) : (askW Tryz.prog (hkF [(55, sAtD [.agg (macL 0 h ss), I i] (B t)), (56, sUp)] [] [(58, iCpF t h ss i s), (57, iRtl)]) Tryz.f23 [.agg (macL 0 h ss), I i, I k, I v] K) = ([DV.agg (macL (0) h ss), I i] = [DV.agg (macL (0) h ss), I i] ∧ bif !t then K (DV.tup [DV.agg mac0, I (1200)]) else bif !upto k (0) (6) then K (DV.tup [DV.agg mac0, I (1200)]) else t = true ∧ [DV.agg (macL (0) h ss)] = [DV.agg (macL (0) h ss)] ∧ Ze2 (List.map (sesL (1)) ss) (Int.toNat i) (1) s ∧ bif decide (@Nat.cast Int _ (List.length h.tr) < 512) then bif decide (0 ≤ i) && decide (i < @Nat.cast Int _ (List.length (List.map (sesL (1)) ss))) then foAt (addN (0) (Int.toNat i)) (Int.toNat i) (List.length (List.map (sesL (1)) ss)) ∧ bif decide (0 ≤ i) && decide (i < @Nat.cast Int _ (List.length (List.map (sesL (1)) ss))) then foAt (addN (0) (Int.toNat i)) (Int.toNat i) (List.length (List.map (sesL (1)) ss)) ∧ bif decide (List.length h.tr ≤ List.length h.tr) && (decide ((List.length h.tr + 1) * 32 ≤ 140737488355328) && decide (List.length h.tr + 1 ≤ 9223372036854775807)) then whole (List.length h.w0) h.w0 ∧ whole (List.length h.w1) h.w1 ∧ whole (List.length h.w2) h.w2 ∧ whole (List.length h.w3) h.w3 ∧ whole (List.length (List.map (sesL (1)) ss)) (List.set (List.map (sesL (1)) ss) (Int.toNat i) (sesL (1) s)) ∧ whole (List.length h.tr + 1) (List.take (List.length h.tr) h.tr ++ [[vN s.id, vN s.lb, vN k, vN v]]) ∧ K (DV.tup [DV.agg (ZfQ (1) { h with tr := (List.take (List.length h.tr) h.tr ++ [[vN s.id, vN s.lb, vN k, vN v]]) } (List.set (List.map (sesL (1)) ss) (Int.toNat i) (sesL (1) s))), I (0)]) else False else False else False else whole (List.length h.w0) h.w0 ∧ whole (List.length h.w1) h.w1 ∧ whole (List.length h.w2) h.w2 ∧ whole (List.length h.w3) h.w3 ∧ whole (List.length (List.map (sesL (1)) ss)) (List.set (List.map (sesL (1)) ss) (Int.toNat i) (sesL (1) s)) ∧ whole (List.length h.tr) h.tr ∧ K (DV.tup [DV.agg (ZfQ (1) h (List.set (List.map (sesL (1)) ss) (Int.toNat i) (sesL (1) s))), I (0)])) := by kernel_rfl
theorem cRTl (h : Mh) (ss : List SesD) (i k v : Int) (hok : okM h ss = true) : CT Tryz.prog 23 [.agg (macL 0 h ss), I i, I k, I v] (bif ZdR h ss i k then macR (ZiZ h (ss.getD i.toNat default) k v) ss 0 else macE 1200) := by
  refine Zrt (.cons (oAtD ZvO (ZuY h ss i hok) rfl rfl) (.cons oUp2 .nil)) .nil (.cons (ZqA i (ss.getD i.toNat default) (ZjV i hok)) (.cons Zlt .nil)) mixed Tryz.func23 rfl rfl rfl ?_
  rw [eRTl]
  refine ⟨⟨rfl, ?_⟩⟩
  rw [Zpy]
  cases hm : Zcj h ss i with
  | false => exact Zd7 1200
  | true =>
    obtain ⟨s, f⟩ := foc hok hm
    rw [f.getD]
    cases hk : upto k 0 6
    · exact Zd7 1200
    · refine ⟨rfl, rfl, f.row, ?_⟩
      unfold ZiZ
      cases hl : decide ((h.tr.length : Int) < 512)
      · refine ⟨f.ow0, f.ow1, f.ow2, f.ow3, f.oss _ _, f.otr, ?_⟩
        have := Zil h ss i.toNat s 0
        rw [f.set] at this; exact this
      · have hl' : h.tr.length < 512 := by have := of_decide_eq_true hl; omega
        simp only [cond_true, cond_false, f.ix, Bool.not_false, Bool.and_self]
        refine ⟨f.foAt, f.foAt, ?_⟩
        rw [decide_eq_true (Nat.le_refl _), decide_eq_true (by omega), decide_eq_true (by omega)]
        refine ⟨f.ow0, f.ow1, f.ow2, f.ow3, f.oss _ _, ZkD f.tr rfl, ?_⟩
        have := Zil { h with tr := h.tr ++ [evD s k v] } ss i.toNat s 0
        rw [f.set] at this
        rw [List.take_length]; exact this
end

section
open Go Go.Proofs
def stEq (z : Nat) (R : List (List D)) (i : Int) : X := ⟨mkT 26 [(0, aS z R []), (1, aS z R []), (4, ab false), (5, ai i)], [], [], []⟩
def Zd8 (z : Nat) (R : List (List D)) : Vw := fun y K => wI y 5 fun i => K (stEq z R i)
theorem ZeL (z : Nat) (R : List (List D)) : VwOK (Zd8 z R) := fun y K q => by
  unfold Zd8 at q
  obtain ⟨i, q⟩ := Za7 q
  exact ⟨_, q⟩
def fEq (z : Nat) (R : List (List D)) : LSum := fun Q x => x.arr [0, 1, 4, 5] [] = stEq z R 0 ∧ Q (.exit 0) (stEq z R R.length)
def eqDs (z : Nat) (ds : List DV) : Prop := ∃ R, okZ z R = true ∧ ds = [.c (.s 0 z R []), .c (.s 0 z R [])]
def sEq (z : Nat) : Spec := fun ds Q => eqDs z ds ∧ Q (B true)
theorem rEq1 (R : List (List D)) (i : Int) (N : X → Prop) (E : Exit → X → Prop) : (ZaX Tryz.prog (hkF [] [] []) Tryz.f75 0 [] [0, 1, 4, 5] [] (Zd8 1 R) (fun _ => Zd8 1 R) N E (stEq 1 R i)) = (bif decide (i < @Nat.cast Int _ (List.length R)) then bif decide (0 ≤ i) && decide (i < @Nat.cast Int _ (List.length R)) then bif isJ [IntKind.i64] (List.drop (0) (List.getD R (Int.toNat i) [])) then bif decide (0 ≤ i) && decide (i < @Nat.cast Int _ (List.length R)) then bif isJ [IntKind.i64] (List.drop (0) (List.getD R (Int.toNat i) [])) then bif hdJ (List.drop (0) (List.getD R (Int.toNat i) [])) != hdJ (List.drop (0) (List.getD R (Int.toNat i) [])) then stEq (1) R i = stEq (1) R i ∧ E Exit.ret (stEq (1) R i) else stEq (1) R (IntKind.wrap IntKind.i64 (i + 1)) = stEq (1) R (IntKind.wrap IntKind.i64 (i + 1)) ∧ N (stEq (1) R (IntKind.wrap IntKind.i64 (i + 1))) else False else False else False else False else stEq (1) R i = stEq (1) R i ∧ E (Exit.exit (0)) (stEq (1) R i)) := by kernel_rfl
theorem eEq1 (R : List (List D)) (K : DV → Prop) : (askW Tryz.prog (hkFL [] [] [] [(4, fEq 1 R)]) Tryz.f75 [dS 1 R [], dS 1 R []] K) = (bif @Nat.cast Int _ (List.length R) != @Nat.cast Int _ (List.length R) then K (B false) else stEq (1) R (0) = stEq (1) R (0) ∧ K (B true)) := by kernel_rfl
theorem rEq2 (R : List (List D)) (i : Int) (N : X → Prop) (E : Exit → X → Prop) : (ZaX Tryz.prog (hkF [] [] []) Tryz.f76 0 [] [0, 1, 4, 5] [] (Zd8 2 R) (fun _ => Zd8 2 R) N E (stEq 2 R i)) = (bif decide (i < @Nat.cast Int _ (List.length R)) then bif decide (0 ≤ i) && decide (i < @Nat.cast Int _ (List.length R)) then bif isJ [IntKind.i64, IntKind.i64] (List.drop (0) (List.getD R (Int.toNat i) [])) then bif decide (0 ≤ i) && decide (i < @Nat.cast Int _ (List.length R)) then bif isJ [IntKind.i64, IntKind.i64] (List.drop (0) (List.getD R (Int.toNat i) [])) then bif !eqI [hdJ (List.drop (0) (List.getD R (Int.toNat i) [])), hdJ (List.tail (List.drop (0) (List.getD R (Int.toNat i) [])))] [hdJ (List.drop (0) (List.getD R (Int.toNat i) [])), hdJ (List.tail (List.drop (0) (List.getD R (Int.toNat i) [])))] then stEq (2) R i = stEq (2) R i ∧ E Exit.ret (stEq (2) R i) else stEq (2) R (IntKind.wrap IntKind.i64 (i + 1)) = stEq (2) R (IntKind.wrap IntKind.i64 (i + 1)) ∧ N (stEq (2) R (IntKind.wrap IntKind.i64 (i + 1))) else False else False else False else False else stEq (2) R i = stEq (2) R i ∧ E (Exit.exit (0)) (stEq (2) R i)) := by kernel_rfl
theorem eEq2 (R : List (List D)) (K : DV → Prop) : (askW Tryz.prog (hkFL [] [] [] [(4, fEq 2 R)]) Tryz.f76 [dS 2 R [], dS 2 R []] K) = (bif @Nat.cast Int _ (List.length R) != @Nat.cast Int _ (List.length R) then K (B false) else stEq (2) R (0) = stEq (2) R (0) ∧ K (B true)) := by kernel_rfl
def stQ (c : ScrD) (i : Int) : X := ⟨mkT 89 [(2, .c (.rp 3 0 7 0 0)), (3, .c (.rp 4 0 7 0 0)), (4, ab false), (6, ai i)], [(3, .bx 0 7 ((scrL 0 c).map C.d)), (4, .bx 0 7 ((scrL 0 c).map C.d))], [], []⟩
def ZnT (c : ScrD) : Vw := fun y K => wI y 6 fun i => K (stQ c i)
theorem ZmS (c : ScrD) : VwOK (ZnT c) := fun y K q => by
  unfold ZnT at q
  obtain ⟨i, q⟩ := Za7 q
  exact ⟨_, q⟩
def fQ (c : ScrD) : LSum := fun Q x => x.arr [2, 3, 4, 6] [3, 4] = stQ c 0 ∧ Q (.exit 2) (stQ c c.sts.length)
theorem rQ (c : ScrD) (i : Int) (N : X → Prop) (E : Exit → X → Prop) : (ZaX Tryz.prog (hkF [(77, ZcW)] [] []) Tryz.f29 1 [] [2, 3, 4, 6] [3, 4] (ZnT c) (fun _ => ZnT c) N E (stQ c i)) = (bif decide (i < @Nat.cast Int _ (List.length (List.map (staL (0)) c.sts))) then bif decide (0 ≤ i) && decide (i < @Nat.cast Int _ (List.length (List.map (staL (0)) c.sts))) then ∃ s, Zd6 (List.map (staL (0)) c.sts) (Int.toNat i) (0) s ∧ bif decide (0 ≤ i) && decide (i < @Nat.cast Int _ (List.length (List.map (staL (0)) c.sts))) then ∃ s_1, Zd6 (List.map (staL (0)) c.sts) (Int.toNat i) (0) s_1 ∧ bif s.id != s_1.id then stQ c i = stQ c i ∧ E Exit.ret (stQ c i) else bif s.lb != s_1.lb then stQ c i = stQ c i ∧ E Exit.ret (stQ c i) else bif s.cl != s_1.cl then stQ c i = stQ c i ∧ E Exit.ret (stQ c i) else bif okZ (4) s.pg && okZ (4) s_1.pg then bif !decide (toZ s.pg = toZ s_1.pg) then stQ c i = stQ c i ∧ E Exit.ret (stQ c i) else stQ c (IntKind.wrap IntKind.i64 (i + 1)) = stQ c (IntKind.wrap IntKind.i64 (i + 1)) ∧ N (stQ c (IntKind.wrap IntKind.i64 (i + 1))) else False else False else False else stQ c i = stQ c i ∧ E (Exit.exit (2)) (stQ c i)) := by kernel_rfl
theorem eQ (c : ScrD) (K : DV → Prop) : (askW Tryz.prog (hkFL [(75, sEq 1), (76, sEq 2)] [] [] [(9, fQ c)]) Tryz.f29 [.agg (scrL 0 c), .agg (scrL 0 c)] K) = (eqDs (1) [DV.c (D.s (0) (1) c.v0 []), DV.c (D.s (0) (1) c.v0 [])] ∧ eqDs (1) [DV.c (D.s (0) (1) c.v1 []), DV.c (D.s (0) (1) c.v1 [])] ∧ eqDs (1) [DV.c (D.s (0) (1) c.v2 []), DV.c (D.s (0) (1) c.v2 [])] ∧ eqDs (1) [DV.c (D.s (0) (1) c.v3 []), DV.c (D.s (0) (1) c.v3 [])] ∧ bif c.ce != c.ce then K (B false) else bif @Nat.cast Int _ (List.length (List.map (staL (0)) c.sts)) != @Nat.cast Int _ (List.length (List.map (staL (0)) c.sts)) then K (B false) else eqDs (2) [DV.c (D.s (0) (2) c.sl []), DV.c (D.s (0) (2) c.sl [])] ∧ stQ c (0) = stQ c (0) ∧ K (B true)) := by kernel_rfl
theorem kEq1 {R : List (List D)} (hz : okZ 1 R = true) (Q : Exit → X → Prop) (x : X) (hq : fEq 1 R Q x) : XWP Tryz.prog (.loop (Zal Tryz.f75 0)) Q x := by
  obtain ⟨hx, hq⟩ := hq
  obtain ⟨e, w, hn⟩ := Zah hz
  have hH : Zam Tryz.prog (hkF [] [] []) := ZeJ .nil .nil .nil
  refine Zbq (sw := []) (V := Zd8 1 R) (VE := fun _ => Zd8 1 R) mixed (ZeL _ _) (fun _ => ZeL _ _) (fun i => stEq 1 R i) (fun i => stEq 1 R i) R.length (fun _ => false) .ret (.exit 0) (fun i hi => ⟨_, hH, Zae rfl, fun N E _ q => ?_⟩) ⟨_, hH, Zae rfl, fun N E q => ?_⟩ Q x ⟨hx, fun i hf => by have := hf.2.1; simp at this, fun _ => hq⟩
  · have q := q rfl
    rw [rEq1]
    have wi : IntKind.wrap IntKind.i64 ((i : Int) + 1) = ((i + 1 : Nat) : Int) := Zaj (n := 1) (by omega)
    have d0 : decide ((i : Int) < @Nat.cast Int _ (List.length R)) = true := by simp; omega
    have d1 : decide (0 ≤ (i : Int)) = true := by simp
    have hj : isJ [IntKind.i64] (List.drop 0 (List.getD R i [])) = true := by
      have := Zau (j := 0) (n := 1) w (by rw [Zan]; exact hi) (by omega)
      rw [← e] at this
      exact this
    have e2 : (hdJ (List.drop 0 (List.getD R i [])) != hdJ (List.drop 0 (List.getD R i []))) = false := by simp
    rw [Int.toNat_natCast, d0, d1, wi, hj, e2]
    exact ⟨rfl, q⟩
  · rw [rEq1]
    have d0 : decide (@Nat.cast Int _ (List.length R) < @Nat.cast Int _ (List.length R)) = false := by simp
    rw [d0]
    exact ⟨rfl, q⟩
theorem cEq1 {R : List (List D)} (hz : okZ 1 R = true) : CT Tryz.prog 75 [dS 1 R [], dS 1 R []] (B true) := by
  have hL : ZcR Tryz.prog Tryz.f75 [(4, fEq 1 R)] := fun j hj s' hs' Q x hq => by
    have hj2 : j < 1 := hj
    obtain rfl : j = 0 := by omega
    cases hs'; exact kEq1 hz Q x hq
  refine Zq9 .nil .nil .nil mixed hL Tryz.func75 rfl rfl rfl ?_
  rw [eEq1]
  have e0 : (@Nat.cast Int _ (List.length R) != @Nat.cast Int _ (List.length R)) = false := by simp
  rw [e0]
  exact ⟨⟨rfl, AL.refl _⟩⟩
theorem oEq1 : Zad Tryz.prog 75 (sEq 1) := o_of Tryz.func75 (by kernel_rfl) rfl fun ds Q h => by
  obtain ⟨⟨R, hz, rfl⟩, h⟩ := h
  exact ⟨_, cEq1 hz, rfl, rfl, h⟩
theorem kEq2 {R : List (List D)} (hz : okZ 2 R = true) (Q : Exit → X → Prop) (x : X) (hq : fEq 2 R Q x) : XWP Tryz.prog (.loop (Zal Tryz.f76 0)) Q x := by
  obtain ⟨hx, hq⟩ := hq
  obtain ⟨e, w, hn⟩ := Zah hz
  have hH : Zam Tryz.prog (hkF [] [] []) := ZeJ .nil .nil .nil
  refine Zbq (sw := []) (V := Zd8 2 R) (VE := fun _ => Zd8 2 R) mixed (ZeL _ _) (fun _ => ZeL _ _) (fun i => stEq 2 R i) (fun i => stEq 2 R i) R.length (fun _ => false) .ret (.exit 0) (fun i hi => ⟨_, hH, Zae rfl, fun N E _ q => ?_⟩) ⟨_, hH, Zae rfl, fun N E q => ?_⟩ Q x ⟨hx, fun i hf => by have := hf.2.1; simp at this, fun _ => hq⟩
  · have q := q rfl
    rw [rEq2]
    have wi : IntKind.wrap IntKind.i64 ((i : Int) + 1) = ((i + 1 : Nat) : Int) := Zaj (n := 1) (by omega)
    have d0 : decide ((i : Int) < @Nat.cast Int _ (List.length R)) = true := by simp; omega
    have d1 : decide (0 ≤ (i : Int)) = true := by simp
    have hj : isJ [IntKind.i64, IntKind.i64] (List.drop 0 (List.getD R i [])) = true := by
      have := Zau (j := 0) (n := 2) w (by rw [Zan]; exact hi) (by omega)
      rw [← e] at this
      exact this
    have e2 : (!eqI [hdJ (List.drop 0 (List.getD R i [])), hdJ (List.tail (List.drop 0 (List.getD R i [])))] [hdJ (List.drop 0 (List.getD R i [])), hdJ (List.tail (List.drop 0 (List.getD R i [])))]) = false := by simp [eqI]
    rw [Int.toNat_natCast, d0, d1, wi, hj, e2]
    exact ⟨rfl, q⟩
  · rw [rEq2]
    have d0 : decide (@Nat.cast Int _ (List.length R) < @Nat.cast Int _ (List.length R)) = false := by simp
    rw [d0]
    exact ⟨rfl, q⟩
theorem cEq2 {R : List (List D)} (hz : okZ 2 R = true) : CT Tryz.prog 76 [dS 2 R [], dS 2 R []] (B true) := by
  have hL : ZcR Tryz.prog Tryz.f76 [(4, fEq 2 R)] := fun j hj s' hs' Q x hq => by
    have hj2 : j < 1 := hj
    obtain rfl : j = 0 := by omega
    cases hs'; exact kEq2 hz Q x hq
  refine Zq9 .nil .nil .nil mixed hL Tryz.func76 rfl rfl rfl ?_
  rw [eEq2]
  have e0 : (@Nat.cast Int _ (List.length R) != @Nat.cast Int _ (List.length R)) = false := by simp
  rw [e0]
  exact ⟨⟨rfl, AL.refl _⟩⟩
theorem oEq2 : Zad Tryz.prog 76 (sEq 2) := o_of Tryz.func76 (by kernel_rfl) rfl fun ds Q h => by
  obtain ⟨⟨R, hz, rfl⟩, h⟩ := h
  exact ⟨_, cEq2 hz, rfl, rfl, h⟩
theorem Zns {sts : List StD} {i : Nat} (h : i < sts.length) : stN sts i ∈ sts := by
  unfold stN
  rw [List.getD_eq_getElem?_getD, List.getElem?_eq_getElem h]
  exact List.getElem_mem h
theorem kQ {c : ScrD} (hs : c.sts.all okSt = true) (hb : c.sts.length * 184 ≤ 140737488351232) (Q : Exit → X → Prop) (x : X) (hq : fQ c Q x) : XWP Tryz.prog (.loop (Zal Tryz.f29 1)) Q x := by
  obtain ⟨hx, hq⟩ := hq
  have hH : Zam Tryz.prog (hkF [(77, ZcW)] [] []) := ZeJ (.cons ZhT .nil) .nil .nil
  refine Zbq (sw := []) (V := ZnT c) (VE := fun _ => ZnT c) mixed (ZmS _) (fun _ => ZmS _) (fun i => stQ c i) (fun i => stQ c i) c.sts.length (fun _ => false) .ret (.exit 2) (fun i hi => ⟨_, hH, Zae rfl, fun N E _ q => ?_⟩) ⟨_, hH, Zae rfl, fun N E q => ?_⟩ Q x ⟨hx, fun i hf => by have := hf.2.1; simp at this, fun _ => hq⟩
  · have q := q rfl
    rw [rQ]
    have wi : IntKind.wrap IntKind.i64 ((i : Int) + 1) = ((i + 1 : Nat) : Int) := Zaj (n := 1) (by omega)
    have d0 : decide ((i : Int) < @Nat.cast Int _ (List.length (List.map (staL 0) c.sts))) = true := by rw [List.length_map]; simp; omega
    have d1 : decide (0 ≤ (i : Int)) = true := by simp
    rw [d0, d1, wi]
    have ok := Zdz (List.all_eq_true.1 hs _ (Zns hi))
    refine ⟨stN c.sts i, by rw [Int.toNat_natCast]; exact ZhQ hi, stN c.sts i, by rw [Int.toNat_natCast]; exact ZhQ hi, ?_⟩
    have a1 : ((stN c.sts i).id != (stN c.sts i).id) = false := by simp
    have a2 : ((stN c.sts i).lb != (stN c.sts i).lb) = false := by simp
    have a3 : ((stN c.sts i).cl != (stN c.sts i).cl) = false := by simp
    have a4 : decide (toZ (stN c.sts i).pg = toZ (stN c.sts i).pg) = true := decide_eq_true rfl
    rw [a1, a2, a3, ok.1, a4]
    exact ⟨rfl, q⟩
  · rw [rQ]
    have d0 : decide (@Nat.cast Int _ c.sts.length < @Nat.cast Int _ (List.length (List.map (staL 0) c.sts))) = false := by rw [List.length_map]; simp
    rw [d0]
    exact ⟨rfl, q⟩
def Zho (c : ScrD) : Bool := okV4 c.v0 c.v1 c.v2 c.v3 && (c.sts.all okSt && (decide (c.sts.length * 184 ≤ 140737488351232) && okZ 2 c.sl))
theorem Zd2 {c : ScrD} (h : Zho c = true) : okV4 c.v0 c.v1 c.v2 c.v3 = true ∧ c.sts.all okSt = true ∧ c.sts.length * 184 ≤ 140737488351232 ∧ okZ 2 c.sl = true := by
  unfold Zho at h
  simpa only [Bool.and_eq_true, decide_eq_true_eq] using h
theorem Zqg (c : ScrD) (hc : Zho c = true) : CT Tryz.prog 29 [.agg (scrL 0 c), .agg (scrL 0 c)] (B true) := by
  obtain ⟨hv, hs, hb, hl⟩ := Zd2 hc
  obtain ⟨⟨z0, _⟩, ⟨z1, _⟩, ⟨z2, _⟩, z3, _⟩ := Zb2 hv
  have hL : ZcR Tryz.prog Tryz.f29 [(9, fQ c)] := fun j hj s' hs' Q x hq => by
    have hj2 : j < 2 := hj
    have : j = 0 ∨ j = 1 := by omega
    rcases this with rfl | rfl
    · cases hs'
    · cases hs'; exact kQ hs hb Q x hq
  refine Zq9 (.cons oEq1 (.cons oEq2 .nil)) .nil .nil mixed hL Tryz.func29 rfl rfl rfl ?_
  rw [eQ]
  have e0 : (@Nat.cast Int _ (List.length (List.map (staL 0) c.sts)) != @Nat.cast Int _ (List.length (List.map (staL 0) c.sts))) = false := by simp
  have e1 : (c.ce != c.ce) = false := by simp
  rw [e0, e1]
  exact ⟨⟨⟨_, z0, rfl⟩, ⟨_, z1, rfl⟩, ⟨_, z2, rfl⟩, ⟨_, z3, rfl⟩, ⟨_, hl, rfl⟩, rfl, AL.refl _⟩⟩
end

section
open Go Go.Proofs
def ZqG (c : ScrD) (i : Int) (WL W0 W1 W2 W3 : List (List D)) : X := ⟨mkT 51 [(1, .c (.rp 2 0 7 0 0)), (2, .c (.rp 3 0 7 0 0)), (3, .c (.rp 4 0 7 0 0)), (5, ai i)], [(2, .bx 0 7 ((scrL 0 c).map C.d)), (3, .bx 0 7 [.d nilV, .d nilV, .d nilV, .d nilV, ci 0, .d nilV, .d nilV]), (4, .bx 0 7 [.rs 20 0 1 0 (0 + List.length c.v0) (0 + List.length c.v0), .rs 40020000 0 1 0 (0 + List.length c.v1) (0 + List.length c.v1), .rs 40020032 0 1 0 (0 + List.length c.v2) (0 + List.length c.v2), .rs 40020064 0 1 0 (0 + List.length c.v3) (0 + List.length c.v3), ci c.ce, .d nilV, .rs 10 0 2 0 (0 + List.length c.sl) (0 + List.length c.sl)]), (10, .sl 0 2 WL), (20, .sl 0 1 W0), (40020000, .sl 0 1 W1), (40020032, .sl 0 1 W2), (40020064, .sl 0 1 W3)], [], []⟩
abbrev stD0 (c : ScrD) (i : Int) : X := ZqG c i c.sl c.v0 c.v1 c.v2 c.v3
def stD (c : ScrD) (i : Int) (n m : Nat) (R : List (List D)) : X := ⟨mkT 51 [(1, .c (.rp 2 0 7 0 0)), (2, .c (.rp 3 0 7 0 0)), (3, .c (.rp 4 0 7 0 0)), (5, ai i)], [(2, .bx 0 7 ((scrL 0 c).map C.d)), (3, .bx 0 7 [.d nilV, .d nilV, .d nilV, .d nilV, ci 0, .d nilV, .d nilV]), (4, .bx 0 7 [.rs 20 0 1 0 (0 + List.length c.v0) (0 + List.length c.v0), .rs 40020000 0 1 0 (0 + List.length c.v1) (0 + List.length c.v1), .rs 40020032 0 1 0 (0 + List.length c.v2) (0 + List.length c.v2), .rs 40020064 0 1 0 (0 + List.length c.v3) (0 + List.length c.v3), ci c.ce, .rs 49 0 4 0 n m, .rs 10 0 2 0 (0 + List.length c.sl) (0 + List.length c.sl)]), (10, .sl 0 2 c.sl), (20, .sl 0 1 c.v0), (40020000, .sl 0 1 c.v1), (40020032, .sl 0 1 c.v2), (40020064, .sl 0 1 c.v3), (49, .sl 0 4 R)], [], []⟩
def Zj9 (c : ScrD) : Vw := fun y K => wI y 5 fun i => wR y 4 fun r => wCn 5 r fun c' => cS c' fun n m => wL y 49 fun R => K (stD c i n m R)
theorem Zm1 (c : ScrD) : VwOK (Zj9 c) := fun y K q => by
  unfold Zj9 at q
  obtain ⟨i, q⟩ := Za7 q
  obtain ⟨r, q⟩ := Zq6 q
  obtain ⟨c', q⟩ := ZjZ q
  obtain ⟨n, m, q⟩ := Zqs q
  obtain ⟨R, q⟩ := Zb8 q
  exact ⟨_, q⟩
theorem rD0 (c : ScrD) (N : X → Prop) (E : Exit → X → Prop) : (ZaX Tryz.prog (hkC [] [] [] []) Tryz.f18 1 [] [1, 2, 3, 5] [2, 3, 4, 10, 20, 40020000, 40020032, 40020064, 49] (Zj9 c) (fun _ => Zj9 c) N E (stD0 c 0)) = (bif decide (0 < @Nat.cast Int _ (List.length (List.map (staL (0)) c.sts))) then bif true && decide (0 < @Nat.cast Int _ (List.length (List.map (staL (0)) c.sts))) then ∃ s, Zd6 (List.map (staL (0)) c.sts) (0) (0) s ∧ bif allV s.pg then bif true && (decide ((0 + List.length s.pg) * 32 ≤ 140737488355328) && decide (0 + List.length s.pg ≤ 9223372036854775807)) then foAt (0) (0) (1) ∧ whole (0 + List.length s.pg) ([] ++ s.pg) ∧ stD c (1) (1) (1) [[vN s.id, vN s.lb, vN s.cl, D.s (1) (4) ([] ++ s.pg) []]] = stD c (1) (1) (1) [[vN s.id, vN s.lb, vN s.cl, D.s (1) (4) ([] ++ s.pg) []]] ∧ N (stD c (1) (1) (1) [[vN s.id, vN s.lb, vN s.cl, D.s (1) (4) ([] ++ s.pg) []]]) else False else False else False else False) := by kernel_rfl
theorem rD1 (c : ScrD) (i : Int) (n m : Nat) (R : List (List D)) (N : X → Prop) (E : Exit → X → Prop) : (ZaX Tryz.prog (hkC [] [] [] []) Tryz.f18 1 [] [1, 2, 3, 5] [2, 3, 4, 10, 20, 40020000, 40020032, 40020064, 49] (Zj9 c) (fun _ => Zj9 c) N E (stD c i n m R)) = (bif decide (i < @Nat.cast Int _ (List.length (List.map (staL (0)) c.sts))) then bif decide (0 ≤ i) && decide (i < @Nat.cast Int _ (List.length (List.map (staL (0)) c.sts))) then ∃ s, Zd6 (List.map (staL (0)) c.sts) (Int.toNat i) (0) s ∧ bif allV s.pg then bif true && (decide ((0 + List.length s.pg) * 32 ≤ 140737488355328) && decide (0 + List.length s.pg ≤ 9223372036854775807)) then n = List.length R ∧ bif decide ((n + 1) * 48 ≤ 140737488355328) && decide (n + 1 ≤ 9223372036854775807) then foAt n n (List.length (R ++ [[]])) ∧ whole (0 + List.length s.pg) ([] ++ s.pg) ∧ stD c (IntKind.wrap IntKind.i64 (i + 1)) (n + 1) (n + 1) (List.set (R ++ [[]]) n [vN s.id, vN s.lb, vN s.cl, D.s (1) (4) ([] ++ s.pg) []]) = stD c (IntKind.wrap IntKind.i64 (i + 1)) (n + 1) (n + 1) (List.set (R ++ [[]]) n [vN s.id, vN s.lb, vN s.cl, D.s (1) (4) ([] ++ s.pg) []]) ∧ N (stD c (IntKind.wrap IntKind.i64 (i + 1)) (n + 1) (n + 1) (List.set (R ++ [[]]) n [vN s.id, vN s.lb, vN s.cl, D.s (1) (4) ([] ++ s.pg) []])) else False else False else False else False else stD c i n m R = stD c i n m R ∧ E (Exit.exit (2)) (stD c i n m R)) := by kernel_rfl
def fDC (c : ScrD) (n : Nat) (R : List (List D)) : LSum := fun Q x => wL x 10 fun WL => wL x 20 fun W0 => wL x 40020000 fun W1 => wL x 40020032 fun W2 => wL x 40020064 fun W3 => WL = c.sl ∧ W0 = c.v0 ∧ W1 = c.v1 ∧ W2 = c.v2 ∧ W3 = c.v3 ∧ x.arr [1, 2, 3, 5] [2, 3, 4, 10, 20, 40020000, 40020032, 40020064, 49] = ZqG c 0 WL W0 W1 W2 W3 ∧ Q (.exit 2) (stD c (n : Nat) n n R)
theorem eDC (c : ScrD) (n : Nat) (R : List (List D)) (K : DV → Prop) : (askW Tryz.prog (hkC [] [] [] [(7, fDC c n R)]) Tryz.f18 [.agg (scrL 0 c)] K) = (bif allV c.sl then bif true && (decide ((0 + List.length c.sl) * 16 ≤ 140737488355328) && decide (0 + List.length c.sl ≤ 9223372036854775807)) then bif allV c.v0 then bif true && (decide ((0 + List.length c.v0) * 8 ≤ 140737488355328) && decide (0 + List.length c.v0 ≤ 9223372036854775807)) then bif allV c.v1 then bif true && (decide ((0 + List.length c.v1) * 8 ≤ 140737488355328) && decide (0 + List.length c.v1 ≤ 9223372036854775807)) then bif allV c.v2 then bif true && (decide ((0 + List.length c.v2) * 8 ≤ 140737488355328) && decide (0 + List.length c.v2 ≤ 9223372036854775807)) then bif allV c.v3 then bif true && (decide ((0 + List.length c.v3) * 8 ≤ 140737488355328) && decide (0 + List.length c.v3 ≤ 9223372036854775807)) then [] ++ c.sl = c.sl ∧ [] ++ c.v0 = c.v0 ∧ [] ++ c.v1 = c.v1 ∧ [] ++ c.v2 = c.v2 ∧ [] ++ c.v3 = c.v3 ∧ ZqG c (0) ([] ++ c.sl) ([] ++ c.v0) ([] ++ c.v1) ([] ++ c.v2) ([] ++ c.v3) = ZqG c (0) ([] ++ c.sl) ([] ++ c.v0) ([] ++ c.v1) ([] ++ c.v2) ([] ++ c.v3) ∧ whole (0 + List.length c.v0) c.v0 ∧ whole (0 + List.length c.v1) c.v1 ∧ whole (0 + List.length c.v2) c.v2 ∧ whole (0 + List.length c.v3) c.v3 ∧ whole n R ∧ whole (0 + List.length c.sl) c.sl ∧ K (DV.agg [D.s (1) (1) c.v0 [], D.s (1) (1) c.v1 [], D.s (1) (1) c.v2 [], D.s (1) (1) c.v3 [], vN c.ce, D.s (1) (4) R [], D.s (1) (2) c.sl []]) else False else False else False else False else False else False else False else False else False else False) := by kernel_rfl
theorem eDn (v0 v1 v2 v3 sl : List (List D)) (ce : Int) (K : DV → Prop) : (askW Tryz.prog (hkC [] [] [] []) Tryz.f18 [.agg (scrL 0 ⟨v0, v1, v2, v3, ce, [], sl⟩)] K) = (bif allV sl then bif true && (decide ((0 + List.length sl) * 16 ≤ 140737488355328) && decide (0 + List.length sl ≤ 9223372036854775807)) then bif allV v0 then bif true && (decide ((0 + List.length v0) * 8 ≤ 140737488355328) && decide (0 + List.length v0 ≤ 9223372036854775807)) then bif allV v1 then bif true && (decide ((0 + List.length v1) * 8 ≤ 140737488355328) && decide (0 + List.length v1 ≤ 9223372036854775807)) then bif allV v2 then bif true && (decide ((0 + List.length v2) * 8 ≤ 140737488355328) && decide (0 + List.length v2 ≤ 9223372036854775807)) then bif allV v3 then bif true && (decide ((0 + List.length v3) * 8 ≤ 140737488355328) && decide (0 + List.length v3 ≤ 9223372036854775807)) then whole (0 + List.length v0) ([] ++ v0) ∧ whole (0 + List.length v1) ([] ++ v1) ∧ whole (0 + List.length v2) ([] ++ v2) ∧ whole (0 + List.length v3) ([] ++ v3) ∧ whole (0 + List.length sl) ([] ++ sl) ∧ K (DV.agg [D.s (1) (1) ([] ++ v0) [], D.s (1) (1) ([] ++ v1) [], D.s (1) (1) ([] ++ v2) [], D.s (1) (1) ([] ++ v3) [], vN ce, nilV, D.s (1) (2) ([] ++ sl) []]) else False else False else False else False else False else False else False else False else False else False) := by kernel_rfl
theorem kpK {z : Nat} {R : List (List D)} (h : okZ z R = true) : allK R = true := Zao (Zab h)
theorem wh0 {z : Nat} {R : List (List D)} (h : okZ z R = true) : whole (0 + List.length R) R := by
  rw [Nat.zero_add]; exact ZaN (kpK h)
theorem g0 {R : List (List D)} {z n : Nat} (h : R.length * z ≤ 140737488355328) (hn : R.length ≤ 9223372036854775807) : (true && (decide ((0 + List.length R) * z ≤ 140737488355328) && decide (0 + List.length R ≤ 9223372036854775807))) = true := by
  rw [Nat.zero_add, decide_eq_true h, decide_eq_true hn]; rfl
theorem Zrq (ss : List StD) : allK (ss.map (staL 1)) = true := by
  unfold allK
  rw [List.all_map, List.all_eq_true]
  intro s _
  rfl
def stDi (c : ScrD) (i : Nat) : X := match i with | 0 => stD0 c 0 | k + 1 => stD c ((k + 1 : Nat) : Int) (k + 1) (k + 1) ((c.sts.take (k + 1)).map (staL 1))
theorem kDC {c : ScrD} (h0 : c.sts ≠ []) (hs : c.sts.all okSt = true) (hb : c.sts.length * 184 ≤ 140737488351232) (Q : Exit → X → Prop) (x : X) (hq : fDC c c.sts.length (c.sts.map (staL 1)) Q x) : XWP Tryz.prog (.loop (Zal Tryz.f18 1)) Q x := by
  unfold fDC at hq
  obtain ⟨WL, hq⟩ := Zb8 hq
  obtain ⟨W0, hq⟩ := Zb8 hq
  obtain ⟨W1, hq⟩ := Zb8 hq
  obtain ⟨W2, hq⟩ := Zb8 hq
  obtain ⟨W3, rfl, rfl, rfl, rfl, rfl, hx, hq⟩ := Zb8 hq
  have q1 := List.all_eq_true.1 hs
  have hp : 0 < c.sts.length := List.length_pos_iff.2 h0
  have eN : stDi c c.sts.length = stD c ((c.sts.length : Nat) : Int) c.sts.length c.sts.length (c.sts.map (staL 1)) := by
    cases hn : c.sts.length with
    | zero => omega
    | succ k =>
      show stD c ((k + 1 : Nat) : Int) (k + 1) (k + 1) (List.map (staL 1) (List.take (k + 1) c.sts)) = _
      rw [List.take_of_length_le (by omega)]
  have hH : Zam Tryz.prog (hkC [] [] [] []) := Zh5 .nil .nil .nil
  refine Zbq (sw := []) (V := Zj9 c) (VE := fun _ => Zj9 c) mixed (Zm1 c) (fun _ => Zm1 c) (stDi c) (stDi c) c.sts.length (fun _ => false) .ret (.exit 2) (fun i hi => ⟨_, hH, Zae rfl, fun N E _ q2 => ?_⟩) ⟨_, hH, Zae rfl, fun N E q2 => ?_⟩ Q x ⟨hx, fun i hf => by have := hf.2.1; simp at this, fun _ => by rw [eN]; exact hq⟩
  · have q2 := q2 rfl
    have hat : Zd6 (List.map (staL 0) c.sts) i 0 (stN c.sts i) := ZhQ hi
    obtain ⟨m1, m2⟩ := Zdz (q1 _ (Zns hi))
    have av := Zab m1
    have gg := g0 (R := (stN c.sts i).pg) (z := 32) (n := 0) (by omega) (by omega)
    have wh := wh0 m1
    have et : (c.sts.take (i + 1)).map (staL 1) = (c.sts.take i).map (staL 1) ++ [staL 1 (stN c.sts i)] := by
      rw [List.take_add_one, List.map_append]
      congr 1
      unfold stN
      rw [List.getD_eq_getElem?_getD, List.getElem?_eq_getElem hi]
      rfl
    cases i with
    | zero =>
      show ZaX Tryz.prog _ _ _ _ _ _ _ _ _ _ (stD0 c 0)
      rw [rD0]
      have c0 : decide (0 < @Nat.cast Int _ (List.length (List.map (staL 0) c.sts))) = true := by rw [List.length_map]; simp; omega
      rw [c0]
      refine ⟨_, hat, ?_⟩
      rw [av, gg]
      refine ⟨ZaR.2 ⟨rfl, by decide⟩, wh, rfl, ?_⟩
      have q3 : N (stD c ((0 + 1 : Nat) : Int) (0 + 1) (0 + 1) ((c.sts.take (0 + 1)).map (staL 1))) := q2
      rw [et] at q3
      exact q3
    | succ k =>
      show ZaX Tryz.prog _ _ _ _ _ _ _ _ _ _ (stD c ((k + 1 : Nat) : Int) (k + 1) (k + 1) ((c.sts.take (k + 1)).map (staL 1)))
      rw [rD1]
      have wi : IntKind.wrap IntKind.i64 (((k + 1 : Nat) : Int) + 1) = ((k + 1 + 1 : Nat) : Int) := Zaj (n := 1) (by omega)
      have c0 : decide (((k + 1 : Nat) : Int) < @Nat.cast Int _ (List.length (List.map (staL 0) c.sts))) = true := by rw [List.length_map]; simp; omega
      have c1 : decide (0 ≤ ((k + 1 : Nat) : Int)) = true := by simp; omega
      have el : (List.map (staL 1) (List.take (k + 1) c.sts)).length = k + 1 := by rw [List.length_map, List.length_take]; omega
      have c2 : (decide ((k + 1 + 1) * 48 ≤ 140737488355328) && decide (k + 1 + 1 ≤ 9223372036854775807)) = true := by simp; omega
      rw [c0, c1]
      refine ⟨_, hat, ?_⟩
      rw [av, gg]
      refine ⟨el.symm, ?_⟩
      rw [c2]
      have hl : k + 1 < (List.map (staL 1) (List.take (k + 1) c.sts) ++ [[]]).length := by rw [List.length_append, el]; simp
      refine ⟨ZaR.2 ⟨rfl, hl⟩, wh, rfl, ?_⟩
      have es : List.set (List.map (staL 1) (List.take (k + 1) c.sts) ++ [[]]) (k + 1) (staL 1 (stN c.sts (k + 1))) = (c.sts.take (k + 1 + 1)).map (staL 1) := by
        rw [et, List.set_append_right _ _ (by omega), el, Nat.sub_self]; rfl
      show N (stD c (IntKind.wrap IntKind.i64 (((k + 1 : Nat) : Int) + 1)) (k + 1 + 1) (k + 1 + 1) (List.set (List.map (staL 1) (List.take (k + 1) c.sts) ++ [[]]) (k + 1) (staL 1 (stN c.sts (k + 1)))))
      rw [wi, es]
      exact q2
  · rw [eN] at q2 ⊢
    rw [rD1]
    have c0 : decide (((c.sts.length : Nat) : Int) < @Nat.cast Int _ (List.length (List.map (staL 0) c.sts))) = false := by rw [List.length_map]; simp
    rw [c0]
    exact ⟨rfl, q2⟩
theorem Zs3 (c : ScrD) (hc : Zho c = true) (hn : c.sl.length * 16 ≤ 140737488351232) : CT Tryz.prog 18 [.agg (scrL 0 c)] (.agg (scrL 1 c)) := by
  obtain ⟨hv, hs, hb, hl⟩ := Zd2 hc
  obtain ⟨⟨z0, l0⟩, ⟨z1, l1⟩, ⟨z2, l2⟩, z3, l3⟩ := Zb2 hv
  have a0 := Zab z0
  have a1 := Zab z1
  have a2 := Zab z2
  have a3 := Zab z3
  have aL := Zab hl
  have G0 := g0 (R := c.v0) (z := 8) (n := 0) (by omega) (by omega)
  have G1 := g0 (R := c.v1) (z := 8) (n := 0) (by omega) (by omega)
  have G2 := g0 (R := c.v2) (z := 8) (n := 0) (by omega) (by omega)
  have G3 := g0 (R := c.v3) (z := 8) (n := 0) (by omega) (by omega)
  have GL := g0 (R := c.sl) (z := 16) (n := 0) (by omega) (by omega)
  cases h0 : c.sts with
  | nil =>
    obtain ⟨v0, v1, v2, v3, ce, sts, sl⟩ := c
    simp only at h0 a0 a1 a2 a3 aL G0 G1 G2 G3 GL z0 z1 z2 z3 hl
    subst h0
    refine Zjd .nil .nil .nil mixed (m := []) (fun j hj s' hs' => by cases hs') Tryz.func18 rfl rfl rfl ?_
    rw [eDn]
    refine ⟨?_⟩
    rw [aL, GL, a0, G0, a1, G1, a2, G2, a3, G3]
    refine ⟨wh0 z0, wh0 z1, wh0 z2, wh0 z3, wh0 hl, ?_⟩
    exact .aggO (.cons (.refl _) (.cons (.refl _) (.cons (.refl _) (.cons (.refl _) (.cons (.refl _) (.cons (.nil 4) (.cons (.refl _) .nil)))))))
  | cons s l =>
    have hne : c.sts ≠ [] := by rw [h0]; exact fun e => by cases e
    have hL : ZcR Tryz.prog Tryz.f18 [(7, fDC c c.sts.length (c.sts.map (staL 1)))] := fun j hj s' hs' Q x hq => by
      have hj2 : j < 2 := hj
      have : j = 0 ∨ j = 1 := by omega
      rcases this with rfl | rfl
      · cases hs'
      · cases hs'; exact kDC hne hs hb Q x hq
    refine Zjd .nil .nil .nil mixed (m := [(7, fDC c c.sts.length (c.sts.map (staL 1)))]) hL Tryz.func18 rfl rfl rfl ?_
    rw [eDC]
    refine ⟨?_⟩
    rw [aL, GL, a0, G0, a1, G1, a2, G2, a3, G3]
    exact ⟨rfl, rfl, rfl, rfl, rfl, rfl, wh0 z0, wh0 z1, wh0 z2, wh0 z3, by have := ZaN (Zrq c.sts); rwa [List.length_map] at this, wh0 hl, AL.refl _⟩
end

section
open Go Go.Proofs
def hkMs (c : ScrD) (h : Mh) (ss : List SesD) (i k v : Int) (h1 h2 : Mh) (us ts : List SesD) (e1 e2 : Int) (t : Bool) : Hooks := hkG [(18, sAtD [.agg (scrL 0 c)] (.agg (scrL 0 c))), (19, sAtD [.agg (macL 0 h ss)] (.agg (macL 0 h ss))), (21, sAtD [.agg (scrL 0 c)] (.tup [.agg (macL 0 h1 us), I e1])), (23, sAtD [.agg (macL 0 h ss), I i, I k, I v] (.tup [.agg (macL 0 h2 ts), I e2])), (24, ZuH), (25, sI), (26, sAtD [.agg (macL 0 h ss)] (B t)), (27, sAtD [.agg (macL 0 h ss)] (B t)), (28, sSpM), (29, sAtD [.agg (scrL 0 c), .agg (scrL 0 c)] (B true)), (30, sAtD [] (B true))] [(20, ZkG Tryz.prog [27] (sAtD [.agg (scrL 0 c)] (.tup [.agg (macL 1 h1 us), I e1]))), (22, ZkG Tryz.prog [34, 3, 3, 3] (sAtD [.agg (macL 0 h ss), I i, I k, I v] (.tup [.agg (macL 1 h2 ts), I e2])))] fun f => Nat.beq f 28
def bL : List (List (List D)) → Prop → Prop
  | [], P => P
  | a :: l, P => bif lX a then bL l P else False
def bK : List (List (List D)) → Prop → Prop
  | [], P => P
  | a :: l, P => bif kX a then bK l P else False
def bA : List (List (List D)) → Prop → Prop
  | [], P => P
  | a :: l, P => bif aX a then bA l P else False
def lS : List SesD → List (List D) → List (List (List D))
  | [], t => [t]
  | s :: l, t => s.pg :: s.rd :: s.wt :: lS l t
def lM (h : Mh) (us : List SesD) : List (List (List D)) := h.w0 :: h.w1 :: h.w2 :: h.w3 :: lS us h.tr
def sD0 (h : Mh) (us : List SesD) : Prop := ZjN [.agg [.s 0 3 (cC h.w0) (cD h.w0), .s 0 3 (cC h.w1) (cD h.w1), .s 0 3 (cC h.w2) (cD h.w2), .s 0 3 (cC h.w3) (cD h.w3), vN h.c0, vN h.c1, vN h.c2, vN h.c3, vN h.ce, .s 0 17 (us.map sQt) [], .s 0 4 (cC h.tr) (cD h.tr)], .agg (ZfQ 0 h (us.map (sesL 0)))]
def sP0 (h : Mh) (us : List SesD) : Prop := spM [.agg [.s 1 3 (tC h.w0) (tD h.w0), .s 1 3 (tC h.w1) (tD h.w1), .s 1 3 (tC h.w2) (tD h.w2), .s 1 3 (tC h.w3) (tD h.w3), vN h.c0, vN h.c1, vN h.c2, vN h.c3, vN h.ce, .s 1 17 (us.map sTt) [], .s 1 4 (tC h.tr) (tD h.tr)]]
def ZbV (c : ScrD) (h : Mh) (ss : List SesD) (i k v : Int) (h1 h2 : Mh) (us ts : List SesD) (e1 e2 : Int) (t : Bool) (K : DV → Prop) : Prop :=
  [DV.agg (scrL 0 c)] = [DV.agg (scrL 0 c)] ∧ [DV.agg (macL 0 h ss)] = [DV.agg (macL 0 h ss)] ∧ [DV.agg (scrL 0 c)] = [DV.agg (scrL 0 c)] ∧ [DV.agg (scrL 0 c)] = [DV.agg (scrL 0 c)] ∧ [DV.agg (macL 0 h ss), I i, I k, I v] = [DV.agg (macL 0 h ss), I i, I k, I v] ∧ [DV.agg (macL 0 h ss), I i, I k, I v] = [DV.agg (macL 0 h ss), I i, I k, I v] ∧
  bL (lM h1 us) (sD0 h1 us ∧ bif e1 != e1 then K (B false) else bL (lM h2 ts) (sD0 h2 ts ∧ bif e2 != e2 then K (B false) else
  [DV.agg (macL 0 h ss)] = [DV.agg (macL 0 h ss)] ∧ [DV.agg (macL 0 h ss)] = [DV.agg (macL 0 h ss)] ∧ bif !t == t then K (B false) else
  bK (lM h1 us) (bA (lM h1 us) (sP0 h1 us ∧ bK (lM h2 ts) (bA (lM h2 ts) (sP0 h2 ts ∧ [DV.agg (scrL 0 c), DV.agg (scrL 0 c)] = [DV.agg (scrL 0 c), DV.agg (scrL 0 c)] ∧ ZjN [DV.agg (macL 0 h ss), DV.agg (macL 0 h ss)] ∧ ([] : List DV) = [] ∧ K (B true)))))))
theorem bL_t : ∀ (l : List (List (List D))) {P : Prop}, P → bL l P
  | [], _, h => h
  | a :: l, P, h => by unfold bL; rw [lX_t]; exact bL_t l h
theorem bK_t : ∀ {l : List (List (List D))} {P : Prop}, (∀ a ∈ l, kX a = true ∧ aX a = true) → P → bK l P
  | [], _, _, h => h
  | a :: l, P, q, h => by unfold bK; rw [(q a (by simp)).1]; exact bK_t (fun b hb => q b (by simp [hb])) h
theorem bA_t : ∀ {l : List (List (List D))} {P : Prop}, (∀ a ∈ l, kX a = true ∧ aX a = true) → P → bA l P
  | [], _, _, h => h
  | a :: l, P, q, h => by unfold bA; rw [(q a (by simp)).2]; exact bA_t (fun b hb => q b (by simp [hb])) h
theorem kaX {z : Nat} {R : List (List D)} (h : okZ z R = true) : kX R = true ∧ aX R = true := ⟨kX_t (Zab h), aX_t (Zab h)⟩
theorem Zuz {t : List (List D)} (ht : kX t = true ∧ aX t = true) : ∀ {us : List SesD}, (∀ s ∈ us, ZaO s = true) → ∀ a ∈ lS us t, kX a = true ∧ aX a = true
  | [], _, a, ha => by
    rw [show a = t from by simpa [lS] using ha]; exact ht
  | s :: l, h, a, ha => by
    obtain ⟨p, r, u⟩ := ZbF (h s (by simp))
    have ha' : a = s.pg ∨ a = s.rd ∨ a = s.wt ∨ a ∈ lS l t := by simpa [lS] using ha
    rcases ha' with rfl | rfl | rfl | ha'
    · exact kaX p
    · exact kaX r
    · exact kaX u
    · exact Zuz ht (fun q hq => h q (by simp [hq])) a ha'
theorem ZqV {h : Mh} {us : List SesD} (ho : okM h us = true) : ∀ a ∈ lM h us, kX a = true ∧ aX a = true := fun a ha => by
  obtain ⟨g1, g2, g3⟩ := Zby ho
  obtain ⟨w0, w1, w2, w3⟩ := Zb1 g1
  have ha' : a = h.w0 ∨ a = h.w1 ∨ a = h.w2 ∨ a = h.w3 ∨ a ∈ lS us h.tr := by simpa [lM] using ha
  rcases ha' with rfl | rfl | rfl | rfl | ha'
  · exact kaX w0
  · exact kaX w1
  · exact kaX w2
  · exact kaX w3
  · exact Zuz (kaX g2) (List.all_eq_true.1 g3) a ha'
theorem Zr3 {h : Mh} {us : List SesD} (ho : okM h us = true) (hl : us.length ≤ 4) : sD0 h us := by
  have e : us.map sQt = us.map (sesL 0) := List.map_congr_left fun s _ => ZvI s
  unfold sD0
  rw [e]
  simp only [cC_e, cD_e]
  exact Zjs ho (by omega)
theorem ZrX {h : Mh} {us : List SesD} (ho : okM h us = true) (hl : us.length ≤ 4) : sP0 h us := by
  have e : us.map sTt = us.map (sesL 1) := List.map_congr_left fun s _ => ZvT s
  unfold sP0
  rw [e]
  simp only [tC_e, tD_e]
  exact Zut ho hl
theorem Zrl {c : ScrD} {h : Mh} {ss : List SesD} {i k v : Int} {h1 h2 : Mh} {us ts : List SesD} {e1 e2 : Int} {t : Bool} (hs0 : ZjN [DV.agg (macL 0 h ss), DV.agg (macL 0 h ss)]) (o1 : okM h1 us = true) (l1 : us.length ≤ 4) (o2 : okM h2 ts = true) (l2 : ts.length ≤ 4) {K : DV → Prop} (hK : K (B true)) : ZbV c h ss i k v h1 h2 us ts e1 e2 t K := by
  have n1 : (e1 != e1) = false := by simp
  have n2 : (e2 != e2) = false := by simp
  have n3 : (!t == t) = false := by cases t <;> rfl
  unfold ZbV
  rw [n1, n2, n3]
  exact ⟨rfl, rfl, rfl, rfl, rfl, rfl, bL_t _ ⟨Zr3 o1 l1, bL_t _ ⟨Zr3 o2 l2, rfl, rfl, bK_t (ZqV o1) (bA_t (ZqV o1) ⟨ZrX o1 l1, bK_t (ZqV o2) (bA_t (ZqV o2) ⟨ZrX o2 l2, rfl, hs0, rfl, hK⟩)⟩)⟩⟩⟩
end

section
open Go Go.Proofs
theorem ZwV (c : ScrD) (h h1 h2 : Mh) (ss : List SesD) (i k v e1 e2 : Int) (t : Bool) (K : DV → Prop) : askW Tryz.prog (hkMs c h ss i k v h1 h2 [] [] e1 e2 t) Tryz.f3 [.agg (scrL 0 c), .agg (macL 0 h ss), I i, I k, I v] K = ZbV c h ss i k v h1 h2 [] [] e1 e2 t K := by kernel_rfl
theorem Zwb (c : ScrD) (h h1 h2 : Mh) (ss : List SesD) (t0 : SesD) (i k v e1 e2 : Int) (t : Bool) (K : DV → Prop) : askW Tryz.prog (hkMs c h ss i k v h1 h2 [] [t0] e1 e2 t) Tryz.f3 [.agg (scrL 0 c), .agg (macL 0 h ss), I i, I k, I v] K = ZbV c h ss i k v h1 h2 [] [t0] e1 e2 t K := by kernel_rfl
theorem Zww (c : ScrD) (h h1 h2 : Mh) (ss : List SesD) (t0 t1 : SesD) (i k v e1 e2 : Int) (t : Bool) (K : DV → Prop) : askW Tryz.prog (hkMs c h ss i k v h1 h2 [] [t0, t1] e1 e2 t) Tryz.f3 [.agg (scrL 0 c), .agg (macL 0 h ss), I i, I k, I v] K = ZbV c h ss i k v h1 h2 [] [t0, t1] e1 e2 t K := by kernel_rfl
theorem Zxe (c : ScrD) (h h1 h2 : Mh) (ss : List SesD) (t0 t1 t2 : SesD) (i k v e1 e2 : Int) (t : Bool) (K : DV → Prop) : askW Tryz.prog (hkMs c h ss i k v h1 h2 [] [t0, t1, t2] e1 e2 t) Tryz.f3 [.agg (scrL 0 c), .agg (macL 0 h ss), I i, I k, I v] K = ZbV c h ss i k v h1 h2 [] [t0, t1, t2] e1 e2 t K := by kernel_rfl
theorem Zwt (c : ScrD) (h h1 h2 : Mh) (ss : List SesD) (t0 t1 t2 t3 : SesD) (i k v e1 e2 : Int) (t : Bool) (K : DV → Prop) : askW Tryz.prog (hkMs c h ss i k v h1 h2 [] [t0, t1, t2, t3] e1 e2 t) Tryz.f3 [.agg (scrL 0 c), .agg (macL 0 h ss), I i, I k, I v] K = ZbV c h ss i k v h1 h2 [] [t0, t1, t2, t3] e1 e2 t K := by kernel_rfl
end

section
open Go Go.Proofs
theorem Zvv (c : ScrD) (h h1 h2 : Mh) (ss : List SesD) (s0 : SesD) (i k v e1 e2 : Int) (t : Bool) (K : DV → Prop) : askW Tryz.prog (hkMs c h ss i k v h1 h2 [s0] [] e1 e2 t) Tryz.f3 [.agg (scrL 0 c), .agg (macL 0 h ss), I i, I k, I v] K = ZbV c h ss i k v h1 h2 [s0] [] e1 e2 t K := by kernel_rfl
theorem ZvE (c : ScrD) (h h1 h2 : Mh) (ss : List SesD) (s0 : SesD) (t0 : SesD) (i k v e1 e2 : Int) (t : Bool) (K : DV → Prop) : askW Tryz.prog (hkMs c h ss i k v h1 h2 [s0] [t0] e1 e2 t) Tryz.f3 [.agg (scrL 0 c), .agg (macL 0 h ss), I i, I k, I v] K = ZbV c h ss i k v h1 h2 [s0] [t0] e1 e2 t K := by kernel_rfl
theorem ZwQ (c : ScrD) (h h1 h2 : Mh) (ss : List SesD) (s0 : SesD) (t0 t1 : SesD) (i k v e1 e2 : Int) (t : Bool) (K : DV → Prop) : askW Tryz.prog (hkMs c h ss i k v h1 h2 [s0] [t0, t1] e1 e2 t) Tryz.f3 [.agg (scrL 0 c), .agg (macL 0 h ss), I i, I k, I v] K = ZbV c h ss i k v h1 h2 [s0] [t0, t1] e1 e2 t K := by kernel_rfl
theorem Zw5 (c : ScrD) (h h1 h2 : Mh) (ss : List SesD) (s0 : SesD) (t0 t1 t2 : SesD) (i k v e1 e2 : Int) (t : Bool) (K : DV → Prop) : askW Tryz.prog (hkMs c h ss i k v h1 h2 [s0] [t0, t1, t2] e1 e2 t) Tryz.f3 [.agg (scrL 0 c), .agg (macL 0 h ss), I i, I k, I v] K = ZbV c h ss i k v h1 h2 [s0] [t0, t1, t2] e1 e2 t K := by kernel_rfl
theorem ZvB (c : ScrD) (h h1 h2 : Mh) (ss : List SesD) (s0 : SesD) (t0 t1 t2 t3 : SesD) (i k v e1 e2 : Int) (t : Bool) (K : DV → Prop) : askW Tryz.prog (hkMs c h ss i k v h1 h2 [s0] [t0, t1, t2, t3] e1 e2 t) Tryz.f3 [.agg (scrL 0 c), .agg (macL 0 h ss), I i, I k, I v] K = ZbV c h ss i k v h1 h2 [s0] [t0, t1, t2, t3] e1 e2 t K := by kernel_rfl
end

section
open Go Go.Proofs
theorem Zv2 (c : ScrD) (h h1 h2 : Mh) (ss : List SesD) (s0 s1 : SesD) (i k v e1 e2 : Int) (t : Bool) (K : DV → Prop) : askW Tryz.prog (hkMs c h ss i k v h1 h2 [s0, s1] [] e1 e2 t) Tryz.f3 [.agg (scrL 0 c), .agg (macL 0 h ss), I i, I k, I v] K = ZbV c h ss i k v h1 h2 [s0, s1] [] e1 e2 t K := by kernel_rfl
theorem Zvm (c : ScrD) (h h1 h2 : Mh) (ss : List SesD) (s0 s1 : SesD) (t0 : SesD) (i k v e1 e2 : Int) (t : Bool) (K : DV → Prop) : askW Tryz.prog (hkMs c h ss i k v h1 h2 [s0, s1] [t0] e1 e2 t) Tryz.f3 [.agg (scrL 0 c), .agg (macL 0 h ss), I i, I k, I v] K = ZbV c h ss i k v h1 h2 [s0, s1] [t0] e1 e2 t K := by kernel_rfl
theorem Zw4 (c : ScrD) (h h1 h2 : Mh) (ss : List SesD) (s0 s1 : SesD) (t0 t1 : SesD) (i k v e1 e2 : Int) (t : Bool) (K : DV → Prop) : askW Tryz.prog (hkMs c h ss i k v h1 h2 [s0, s1] [t0, t1] e1 e2 t) Tryz.f3 [.agg (scrL 0 c), .agg (macL 0 h ss), I i, I k, I v] K = ZbV c h ss i k v h1 h2 [s0, s1] [t0, t1] e1 e2 t K := by kernel_rfl
theorem Zw8 (c : ScrD) (h h1 h2 : Mh) (ss : List SesD) (s0 s1 : SesD) (t0 t1 t2 : SesD) (i k v e1 e2 : Int) (t : Bool) (K : DV → Prop) : askW Tryz.prog (hkMs c h ss i k v h1 h2 [s0, s1] [t0, t1, t2] e1 e2 t) Tryz.f3 [.agg (scrL 0 c), .agg (macL 0 h ss), I i, I k, I v] K = ZbV c h ss i k v h1 h2 [s0, s1] [t0, t1, t2] e1 e2 t K := by kernel_rfl
theorem ZwX (c : ScrD) (h h1 h2 : Mh) (ss : List SesD) (s0 s1 : SesD) (t0 t1 t2 t3 : SesD) (i k v e1 e2 : Int) (t : Bool) (K : DV → Prop) : askW Tryz.prog (hkMs c h ss i k v h1 h2 [s0, s1] [t0, t1, t2, t3] e1 e2 t) Tryz.f3 [.agg (scrL 0 c), .agg (macL 0 h ss), I i, I k, I v] K = ZbV c h ss i k v h1 h2 [s0, s1] [t0, t1, t2, t3] e1 e2 t K := by kernel_rfl
end

section
open Go Go.Proofs
theorem Zxf (c : ScrD) (h h1 h2 : Mh) (ss : List SesD) (s0 s1 s2 : SesD) (i k v e1 e2 : Int) (t : Bool) (K : DV → Prop) : askW Tryz.prog (hkMs c h ss i k v h1 h2 [s0, s1, s2] [] e1 e2 t) Tryz.f3 [.agg (scrL 0 c), .agg (macL 0 h ss), I i, I k, I v] K = ZbV c h ss i k v h1 h2 [s0, s1, s2] [] e1 e2 t K := by kernel_rfl
theorem ZwT (c : ScrD) (h h1 h2 : Mh) (ss : List SesD) (s0 s1 s2 : SesD) (t0 : SesD) (i k v e1 e2 : Int) (t : Bool) (K : DV → Prop) : askW Tryz.prog (hkMs c h ss i k v h1 h2 [s0, s1, s2] [t0] e1 e2 t) Tryz.f3 [.agg (scrL 0 c), .agg (macL 0 h ss), I i, I k, I v] K = ZbV c h ss i k v h1 h2 [s0, s1, s2] [t0] e1 e2 t K := by kernel_rfl
theorem Zwr (c : ScrD) (h h1 h2 : Mh) (ss : List SesD) (s0 s1 s2 : SesD) (t0 t1 : SesD) (i k v e1 e2 : Int) (t : Bool) (K : DV → Prop) : askW Tryz.prog (hkMs c h ss i k v h1 h2 [s0, s1, s2] [t0, t1] e1 e2 t) Tryz.f3 [.agg (scrL 0 c), .agg (macL 0 h ss), I i, I k, I v] K = ZbV c h ss i k v h1 h2 [s0, s1, s2] [t0, t1] e1 e2 t K := by kernel_rfl
theorem Zwa (c : ScrD) (h h1 h2 : Mh) (ss : List SesD) (s0 s1 s2 : SesD) (t0 t1 t2 : SesD) (i k v e1 e2 : Int) (t : Bool) (K : DV → Prop) : askW Tryz.prog (hkMs c h ss i k v h1 h2 [s0, s1, s2] [t0, t1, t2] e1 e2 t) Tryz.f3 [.agg (scrL 0 c), .agg (macL 0 h ss), I i, I k, I v] K = ZbV c h ss i k v h1 h2 [s0, s1, s2] [t0, t1, t2] e1 e2 t K := by kernel_rfl
theorem Zwn (c : ScrD) (h h1 h2 : Mh) (ss : List SesD) (s0 s1 s2 : SesD) (t0 t1 t2 t3 : SesD) (i k v e1 e2 : Int) (t : Bool) (K : DV → Prop) : askW Tryz.prog (hkMs c h ss i k v h1 h2 [s0, s1, s2] [t0, t1, t2, t3] e1 e2 t) Tryz.f3 [.agg (scrL 0 c), .agg (macL 0 h ss), I i, I k, I v] K = ZbV c h ss i k v h1 h2 [s0, s1, s2] [t0, t1, t2, t3] e1 e2 t K := by kernel_rfl
end

section
open Go Go.Proofs
theorem ZwE (c : ScrD) (h h1 h2 : Mh) (ss : List SesD) (s0 s1 s2 s3 : SesD) (i k v e1 e2 : Int) (t : Bool) (K : DV → Prop) : askW Tryz.prog (hkMs c h ss i k v h1 h2 [s0, s1, s2, s3] [] e1 e2 t) Tryz.f3 [.agg (scrL 0 c), .agg (macL 0 h ss), I i, I k, I v] K = ZbV c h ss i k v h1 h2 [s0, s1, s2, s3] [] e1 e2 t K := by kernel_rfl
theorem Zv8 (c : ScrD) (h h1 h2 : Mh) (ss : List SesD) (s0 s1 s2 s3 : SesD) (t0 : SesD) (i k v e1 e2 : Int) (t : Bool) (K : DV → Prop) : askW Tryz.prog (hkMs c h ss i k v h1 h2 [s0, s1, s2, s3] [t0] e1 e2 t) Tryz.f3 [.agg (scrL 0 c), .agg (macL 0 h ss), I i, I k, I v] K = ZbV c h ss i k v h1 h2 [s0, s1, s2, s3] [t0] e1 e2 t K := by kernel_rfl
theorem Zwu (c : ScrD) (h h1 h2 : Mh) (ss : List SesD) (s0 s1 s2 s3 : SesD) (t0 t1 : SesD) (i k v e1 e2 : Int) (t : Bool) (K : DV → Prop) : askW Tryz.prog (hkMs c h ss i k v h1 h2 [s0, s1, s2, s3] [t0, t1] e1 e2 t) Tryz.f3 [.agg (scrL 0 c), .agg (macL 0 h ss), I i, I k, I v] K = ZbV c h ss i k v h1 h2 [s0, s1, s2, s3] [t0, t1] e1 e2 t K := by kernel_rfl
theorem Zv1 (c : ScrD) (h h1 h2 : Mh) (ss : List SesD) (s0 s1 s2 s3 : SesD) (t0 t1 t2 : SesD) (i k v e1 e2 : Int) (t : Bool) (K : DV → Prop) : askW Tryz.prog (hkMs c h ss i k v h1 h2 [s0, s1, s2, s3] [t0, t1, t2] e1 e2 t) Tryz.f3 [.agg (scrL 0 c), .agg (macL 0 h ss), I i, I k, I v] K = ZbV c h ss i k v h1 h2 [s0, s1, s2, s3] [t0, t1, t2] e1 e2 t K := by kernel_rfl
theorem Zw9 (c : ScrD) (h h1 h2 : Mh) (ss : List SesD) (s0 s1 s2 s3 : SesD) (t0 t1 t2 t3 : SesD) (i k v e1 e2 : Int) (t : Bool) (K : DV → Prop) : askW Tryz.prog (hkMs c h ss i k v h1 h2 [s0, s1, s2, s3] [t0, t1, t2, t3] e1 e2 t) Tryz.f3 [.agg (scrL 0 c), .agg (macL 0 h ss), I i, I k, I v] K = ZbV c h ss i k v h1 h2 [s0, s1, s2, s3] [t0, t1, t2, t3] e1 e2 t K := by kernel_rfl
end

section
open Go Go.Proofs
theorem ZqK {s : StD} (h : okSt s = true) : ownL (staL 1 s) = true := by
  obtain ⟨a, _⟩ := Zdz h
  simp only [staL, ownL, D.pureOwn, ZaE (Zab a), Zdt]; rfl
theorem Zky : ∀ {ss : List StD}, ss.all okSt = true → Zdt (ss.map (staL 1)) = true
  | [], _ => rfl
  | s :: l, h => by
    rw [List.all_cons, Bool.and_eq_true] at h
    simp only [List.map_cons, Zdt, ZqK h.1, Zky h.2]; rfl
theorem Zty {c : ScrD} (hc : Zho c = true) : (DV.agg (scrL 1 c)).pureOwn = true := by
  obtain ⟨hv, hs, hb, hl⟩ := Zd2 hc
  obtain ⟨⟨z0, _⟩, ⟨z1, _⟩, ⟨z2, _⟩, z3, _⟩ := Zb2 hv
  show ownL (scrL 1 c) = true
  simp only [scrL, ownL, D.pureOwn, ZaE (Zab z0), ZaE (Zab z1), ZaE (Zab z2), ZaE (Zab z3), ZaE (Zab hl), Zky hs, Zdt]; rfl
theorem ZtP {t t' : Nat} (s : StD) : All2 RD (staL t s) (staL t' s) := .cons (.refl _) (.cons (.refl _) (.cons (.refl _) (.cons .slice .nil)))
theorem ZrY {t t' : Nat} : ∀ ss : List StD, All2 (All2 RD) (ss.map (staL t)) (ss.map (staL t'))
  | [] => .nil
  | s :: ss => .cons (ZtP s) (ZrY ss)
theorem Zt9 {t t' : Nat} (c : ScrD) : All2 RD (scrL t c) (scrL t' c) :=
  .cons .slice (.cons .slice (.cons .slice (.cons .slice (.cons (.refl _) (.cons (.rows (ZrY c.sts)) (.cons .slice .nil))))))
theorem gCS0 : Goes Tryz.prog 18 := Zaq Tryz.func18 (by kernel_rfl) rfl
theorem gSS0 : Goes Tryz.prog 29 := Zaq Tryz.func29 (by kernel_rfl) rfl
theorem gNw : Goes Tryz.prog 20 := Zaq Tryz.func20 (by kernel_rfl) rfl
theorem gRNw : Goes Tryz.prog 21 := Zaq Tryz.func21 (by kernel_rfl) rfl
theorem gTl : Goes Tryz.prog 22 := Zaq Tryz.func22 (by kernel_rfl) rfl
theorem gRTl : Goes Tryz.prog 23 := Zaq Tryz.func23 (by kernel_rfl) rfl
theorem oCSz {c : ScrD} (hc : Zho c = true) (hn : c.sl.length * 16 ≤ 140737488351232) : Zad Tryz.prog 18 (sAtD [.agg (scrL 0 c)] (.agg (scrL 0 c))) :=
  oAtZ gCS0 (Zs3 c hc hn) (Zty hc) (Zl3 (Zt9 c) rfl) rfl
theorem cMsA (c : ScrD) (h : Mh) (ss : List SesD) (i k v : Int) (h1 h2 : Mh) (us ts : List SesD) (e1 e2 : Int) (hc : Zho c = true) (hn : c.sl.length * 16 ≤ 140737488351232) (hok : okM h ss = true) (hsm : smM h ss = true) (hb : ss.length * 184 ≤ 140737488351232)
    (ok1 : okM h1 us = true) (sm1 : smM h1 us = true) (l1 : us.length ≤ 4) (ok2 : okM h2 ts = true) (sm2 : smM h2 ts = true) (l2 : ts.length ≤ 4)
    (hN : CT Tryz.prog 20 [.agg (scrL 0 c)] (macR h1 us e1)) (hRN : CT Tryz.prog 21 [.agg (scrL 0 c)] (macR h1 us e1)) (hT : CT Tryz.prog 22 [.agg (macL 0 h ss), I i, I k, I v] (macR h2 ts e2)) (hRT : CT Tryz.prog 23 [.agg (macL 0 h ss), I i, I k, I v] (macR h2 ts e2)) : CT Tryz.prog 3 [.agg (scrL 0 c), .agg (macL 0 h ss), I i, I k, I v] (B true) := by
  have hH : Zam Tryz.prog (hkMs c h ss i k v h1 h2 us ts e1 e2 (mmay h ss)) :=
    Zpn (.cons (oCSz hc hn) (.cons (Zuh hsm hb) (.cons (oAtZ gRNw hRN (ZeI sm1 e1) (ZmR _ _ _) rfl) (.cons (oAtZ gRTl hRT (ZeI sm2 e2) (ZmR _ _ _) rfl) (.cons Zvs (.cons oNum (.cons (oAtD ZtT (Zpr h ss hok) rfl rfl) (.cons (oAtD gRM (cRM h ss hok) rfl rfl) (.cons oSpM (.cons (oAtD gSS0 (Zqg c hc) rfl rfl) (.cons ZvG .nil))))))))))) (.cons (Zdp (oAtD gNw hN (ZeI sm1 e1) rfl)) (.cons (Zdp (oAtD gTl hT (ZeI sm2 e2) rfl)) .nil))
  have hbig : ss.length ≤ 9223372036854775806 := by omega
  have hs0 := Zjs hok hbig
  refine ct_w hH mixed Zcl Tryz.func3 rfl rfl rfl ?_
  have hF := Zrl (c := c) (i := i) (k := k) (v := v) (e1 := e1) (e2 := e2) (t := mmay h ss) hs0 ok1 l1 ok2 l2 (K := fun r => AL r (B true)) (AL.refl _)
  clear hN hRN hT hRT hH
  rcases us with _ | ⟨s0, _ | ⟨s1, _ | ⟨s2, _ | ⟨s3, _ | ⟨s4, l⟩⟩⟩⟩⟩
  · rcases ts with _ | ⟨t0, _ | ⟨t1, _ | ⟨t2, _ | ⟨t3, _ | ⟨t4, l⟩⟩⟩⟩⟩
    · rw [ZwV]; exact ⟨hF⟩
    · rw [Zwb]; exact ⟨hF⟩
    · rw [Zww]; exact ⟨hF⟩
    · rw [Zxe]; exact ⟨hF⟩
    · rw [Zwt]; exact ⟨hF⟩
    · simp at l2
  · rcases ts with _ | ⟨t0, _ | ⟨t1, _ | ⟨t2, _ | ⟨t3, _ | ⟨t4, l⟩⟩⟩⟩⟩
    · rw [Zvv]; exact ⟨hF⟩
    · rw [ZvE]; exact ⟨hF⟩
    · rw [ZwQ]; exact ⟨hF⟩
    · rw [Zw5]; exact ⟨hF⟩
    · rw [ZvB]; exact ⟨hF⟩
    · simp at l2
  · rcases ts with _ | ⟨t0, _ | ⟨t1, _ | ⟨t2, _ | ⟨t3, _ | ⟨t4, l⟩⟩⟩⟩⟩
    · rw [Zv2]; exact ⟨hF⟩
    · rw [Zvm]; exact ⟨hF⟩
    · rw [Zw4]; exact ⟨hF⟩
    · rw [Zw8]; exact ⟨hF⟩
    · rw [ZwX]; exact ⟨hF⟩
    · simp at l2
  · rcases ts with _ | ⟨t0, _ | ⟨t1, _ | ⟨t2, _ | ⟨t3, _ | ⟨t4, l⟩⟩⟩⟩⟩
    · rw [Zxf]; exact ⟨hF⟩
    · rw [ZwT]; exact ⟨hF⟩
    · rw [Zwr]; exact ⟨hF⟩
    · rw [Zwa]; exact ⟨hF⟩
    · rw [Zwn]; exact ⟨hF⟩
    · simp at l2
  · rcases ts with _ | ⟨t0, _ | ⟨t1, _ | ⟨t2, _ | ⟨t3, _ | ⟨t4, l⟩⟩⟩⟩⟩
    · rw [ZwE]; exact ⟨hF⟩
    · rw [Zv8]; exact ⟨hF⟩
    · rw [Zwu]; exact ⟨hF⟩
    · rw [Zv1]; exact ⟨hF⟩
    · rw [Zw9]; exact ⟨hF⟩
    · simp at l2
  · simp at l1
theorem newX (c : ScrD) (hc : Zho c = true) : ∃ h1 us e1, okM h1 us = true ∧ smM h1 us = true ∧ us.length ≤ 4 ∧ CT Tryz.prog 20 [.agg (scrL 0 c)] (macR h1 us e1) ∧ CT Tryz.prog 21 [.agg (scrL 0 c)] (macR h1 us e1) := by
  obtain ⟨hv, hs, hb, hl⟩ := Zd2 hc
  have hN := cNew c hv hs hb
  have hR := Zwi c hv hs hb
  cases ho : Zd5 c with
  | false => rw [ho] at hN hR; exact ⟨h0, [], 1200, rfl, rfl, by decide, hN, hR⟩
  | true =>
    rw [ho] at hN hR
    have hok := okN hv hs
    have hm : mmay (newM c) (c.sts.map newS) = true := by
      unfold Zd5 at ho
      simp only [Bool.and_eq_true] at ho
      exact ho.2.2
    exact ⟨newM c, _, 0, hok, ZiW hok hm, (ZeO hm).1, hN, hR⟩
theorem telX (h : Mh) (ss : List SesD) (i k v : Int) (hok : okM h ss = true) : ∃ h2 ts e2, okM h2 ts = true ∧ smM h2 ts = true ∧ ts.length ≤ 4 ∧ CT Tryz.prog 22 [.agg (macL 0 h ss), I i, I k, I v] (macR h2 ts e2) ∧ CT Tryz.prog 23 [.agg (macL 0 h ss), I i, I k, I v] (macR h2 ts e2) := by
  have hT := cTel h ss i k v hok
  have hR := cRTl h ss i k v hok
  cases ho : ZdR h ss i k with
  | false => rw [ho] at hT hR; exact ⟨h0, [], 1200, rfl, rfl, by decide, hT, hR⟩
  | true =>
    rw [ho] at hT hR
    have hm : Zcj h ss i = true := by
      unfold ZdR at ho
      rw [Bool.and_eq_true] at ho
      exact ho.1
    obtain ⟨s, f⟩ := foc hok hm
    exact ⟨_, ss, 0, ZtF hok f.tl k v, ZjD hok ho v, f.len, hT, hR⟩
theorem cMs (c : ScrD) (h : Mh) (ss : List SesD) (i k v : Int) (hc : Zho c = true) (hn : c.sl.length * 16 ≤ 140737488351232) (hok : okM h ss = true) (hsm : smM h ss = true) (hb : ss.length * 184 ≤ 140737488351232) : CT Tryz.prog 3 [.agg (scrL 0 c), .agg (macL 0 h ss), I i, I k, I v] (B true) := by
  obtain ⟨h1, us, e1, x1, x2, x3, x4, x5⟩ := newX c hc
  obtain ⟨h2, ts, e2, y1, y2, y3, y4, y5⟩ := telX h ss i k v hok
  exact cMsA c h ss i k v h1 h2 us ts e1 e2 hc hn hok hsm hb x1 x2 x3 y1 y2 y3 x4 x5 y4 y5
theorem cMsg (xs ys : List D) (i k v : Int) (g : GoodL kScr xs ∧ ShL 1048576 xs) (g' : GoodL kMac ys ∧ ShL 1048576 ys) : CT Tryz.prog 3 [.agg xs, .agg ys, I i, I k, I v] (B true) := by
  obtain ⟨c, rfl, hv, hs, hb, hl, hn⟩ := gScr g.1 g.2
  obtain ⟨h, ss, rfl, ho, hsm, hb2⟩ := ZwH g'.1
  exact cMs c h ss i k v (by unfold Zho; rw [hv, hs, decide_eq_true hb, hl]; rfl) hn ho hsm hb2
end

end Vm
