/- An interpreter for Go's texts over plain data, its proof, and what it says of the functions that the law reaches. My own work. -/
import Derived.Test.YtnhodnfnlnccaaaGreatSg5
set_option linter.unusedSimpArgs false
set_option linter.unusedVariables false
set_option maxRecDepth 100000
set_option maxHeartbeats 2000000
namespace Vm
section
open Go Go.Proofs
theorem j_ok {s : SesD} (hs : ZaD s = true) (h0 : 0 ≤ s.pc) (h1 : s.pc < s.pg.length) {k : Nat} (hk : k < 4) : jOK s k = true := by
  obtain ⟨e, w, _⟩ := Zah (ZaV hs).1
  have hq : s.pc.toNat < (toZ s.pg).length := by rw [Zal]; omega
  unfold jOK
  rw [e]
  exact Zav (j := k) (n := 1) w hq (by omega)
def runV (s : SesD) : Int := bif (s.st == 0) && decide (s.pc < s.pg.length) then iC s else -1
-- SUB decide (0 ≤ i) && decide (i < @Nat.cast Int _ (List.length (List.map (sesL (1)) ss))) => ixI i ss
-- SUB foAt (addN (0) (Int.toNat i)) (Int.toNat i) (List.length (List.map (sesL (1)) ss)) => foA i ss
-- SUB foAt (Int.toNat i) (Int.toNat i) (List.length (List.map (sesL (1)) ss)) => foB i ss
-- SUB decide (List.length h.tr ≤ List.length h.tr) && (decide ((List.length h.tr + 1) * 32 ≤ 140737488355328) && decide (List.length h.tr + 1 ≤ 9223372036854775807)) => rmT h
-- SUB whole (List.length h.w0) h.w0 => wO h.w0
-- SUB whole (List.length h.w1) h.w1 => wO h.w1
-- SUB whole (List.length h.w2) h.w2 => wO h.w2
-- SUB whole (List.length h.w3) h.w3 => wO h.w3
-- SUB whole (List.length h.tr) h.tr => wO h.tr
-- SUB List.set (List.map (sesL (1)) ss) (Int.toNat i) => stI i ss
-- SUB whole (List.length (List.map (sesL (1)) ss)) => wLs ss
theorem eRun (h : Mh) (ss : List SesD) (i : Int) (K : DV → Prop) : (askW Tryz.prog (hkF [] [] []) Tryz.f83 [.agg (macL 0 h ss), I i] K) = (bif decide (0 ≤ i) && decide (i < @Nat.cast Int _ (List.length (List.map (sesL (0)) ss))) then ∃ s, ZcU (List.map (sesL (0)) ss) (Int.toNat i) (0) s ∧ bif s.st != 0 then K (I (-1)) else bif decide (s.pc ≥ @Nat.cast Int _ (List.length s.pg)) then K (I (-1)) else bif decide (0 ≤ s.pc) && decide (s.pc < @Nat.cast Int _ (List.length s.pg)) then bif jOK s 0 then K (I (iC s)) else False else False else False) := by kernel_rfl
theorem Zvn (h : Mh) (ss : List SesD) (s : SesD) (i c : Int) (t : Bool) (K : DV → Prop) : (askW Tryz.prog (hkF [(55, sAtD [.agg (macL 0 h ss), I i] (B t)), (83, sIf t (sAtD [.agg (macL 0 h ss), I i] (I c))), (87, sWth)] [] [(58, iCpF t h ss i s), (57, iRtl)]) Tryz.f39 [.agg (macL 0 h ss), I i] K) = ([DV.agg (macL (0) h ss), I i] = [DV.agg (macL (0) h ss), I i] ∧ bif !t then K (DV.tup [DV.agg mac0, I (1600)]) else t = true ∧ [DV.agg (macL (0) h ss), I i] = [DV.agg (macL (0) h ss), I i] ∧ bif c != 3 then K (DV.tup [DV.agg mac0, I (1600)]) else bif decide (0 ≤ i) && decide (i < @Nat.cast Int _ (List.length (List.map (sesL (0)) ss))) then ∃ s_1, ZcU (List.map (sesL (0)) ss) (Int.toNat i) (0) s_1 ∧ bif decide (0 ≤ s_1.pc) && decide (s_1.pc < @Nat.cast Int _ (List.length s_1.pg)) then bif iOK s_1 then bif decide (iA s_1 = 0) then bif okZ (3) s_1.wt then bif Ze7 (toZ s_1.wt) [iB s_1, iD s_1, s_1.r0] != 0 then K (DV.tup [DV.agg mac0, I (1600)]) else t = true ∧ [DV.agg (macL (0) h ss)] = [DV.agg (macL (0) h ss)] ∧ ZcU (List.map (sesL (1)) ss) (Int.toNat i) (1) s ∧ bif ixI i ss then foA i ss ∧ foB i ss ∧ whole (List.length (mZ (Zaj (toZ s_1.wt) [iB s_1, iD s_1, s_1.r0]))) (mZ (Zaj (toZ s_1.wt) [iB s_1, iD s_1, s_1.r0]) ++ []) ∧ bif ixI i ss then foA i ss ∧ bif ixI i ss then foA i ss ∧ bif decide (iA s_1 = 0) then bif decide (@Nat.cast Int _ (List.length h.tr) < 512) then bif ixI i ss then foA i ss ∧ bif ixI i ss then foA i ss ∧ bif rmT h then wO h.w0 ∧ wO h.w1 ∧ wO h.w2 ∧ wO h.w3 ∧ wLs ss (stI i ss (sesL (1) { s with pc := (IntKind.wrap IntKind.i64 (s.pc + 1)), wt := (mZ (Zaj (toZ s_1.wt) [iB s_1, iD s_1, s_1.r0]) ++ []) })) ∧ whole (List.length h.tr + 1) (List.take (List.length h.tr) h.tr ++ [[vN s.id, vN s.lb, vN (1), vN s_1.r0]]) ∧ K (DV.tup [DV.agg (ZaY (1) { h with tr := (List.take (List.length h.tr) h.tr ++ [[vN s.id, vN s.lb, vN (1), vN s_1.r0]]) } (stI i ss (sesL (1) { s with pc := (IntKind.wrap IntKind.i64 (s.pc + 1)), wt := (mZ (Zaj (toZ s_1.wt) [iB s_1, iD s_1, s_1.r0]) ++ []) }))), I (0)]) else False else False else False else wO h.w0 ∧ wO h.w1 ∧ wO h.w2 ∧ wO h.w3 ∧ wLs ss (stI i ss (sesL (1) { s with pc := (IntKind.wrap IntKind.i64 (s.pc + 1)), wt := (mZ (Zaj (toZ s_1.wt) [iB s_1, iD s_1, s_1.r0]) ++ []) })) ∧ wO h.tr ∧ K (DV.tup [DV.agg (ZaY (1) h (stI i ss (sesL (1) { s with pc := (IntKind.wrap IntKind.i64 (s.pc + 1)), wt := (mZ (Zaj (toZ s_1.wt) [iB s_1, iD s_1, s_1.r0]) ++ []) }))), I (0)]) else bif decide (iA s_1 = 1) then bif decide (@Nat.cast Int _ (List.length h.tr) < 512) then bif ixI i ss then foA i ss ∧ bif ixI i ss then foA i ss ∧ bif rmT h then wO h.w0 ∧ wO h.w1 ∧ wO h.w2 ∧ wO h.w3 ∧ wLs ss (stI i ss (sesL (1) { s with pc := (IntKind.wrap IntKind.i64 (s.pc + 1)), wt := (mZ (Zaj (toZ s_1.wt) [iB s_1, iD s_1, s_1.r0]) ++ []) })) ∧ whole (List.length h.tr + 1) (List.take (List.length h.tr) h.tr ++ [[vN s.id, vN s.lb, vN (1), vN s_1.r1]]) ∧ K (DV.tup [DV.agg (ZaY (1) { h with tr := (List.take (List.length h.tr) h.tr ++ [[vN s.id, vN s.lb, vN (1), vN s_1.r1]]) } (stI i ss (sesL (1) { s with pc := (IntKind.wrap IntKind.i64 (s.pc + 1)), wt := (mZ (Zaj (toZ s_1.wt) [iB s_1, iD s_1, s_1.r0]) ++ []) }))), I (0)]) else False else False else False else wO h.w0 ∧ wO h.w1 ∧ wO h.w2 ∧ wO h.w3 ∧ wLs ss (stI i ss (sesL (1) { s with pc := (IntKind.wrap IntKind.i64 (s.pc + 1)), wt := (mZ (Zaj (toZ s_1.wt) [iB s_1, iD s_1, s_1.r0]) ++ []) })) ∧ wO h.tr ∧ K (DV.tup [DV.agg (ZaY (1) h (stI i ss (sesL (1) { s with pc := (IntKind.wrap IntKind.i64 (s.pc + 1)), wt := (mZ (Zaj (toZ s_1.wt) [iB s_1, iD s_1, s_1.r0]) ++ []) }))), I (0)]) else bif decide (iA s_1 = 2) then bif decide (@Nat.cast Int _ (List.length h.tr) < 512) then bif ixI i ss then foA i ss ∧ bif ixI i ss then foA i ss ∧ bif rmT h then wO h.w0 ∧ wO h.w1 ∧ wO h.w2 ∧ wO h.w3 ∧ wLs ss (stI i ss (sesL (1) { s with pc := (IntKind.wrap IntKind.i64 (s.pc + 1)), wt := (mZ (Zaj (toZ s_1.wt) [iB s_1, iD s_1, s_1.r0]) ++ []) })) ∧ whole (List.length h.tr + 1) (List.take (List.length h.tr) h.tr ++ [[vN s.id, vN s.lb, vN (1), vN s_1.r2]]) ∧ K (DV.tup [DV.agg (ZaY (1) { h with tr := (List.take (List.length h.tr) h.tr ++ [[vN s.id, vN s.lb, vN (1), vN s_1.r2]]) } (stI i ss (sesL (1) { s with pc := (IntKind.wrap IntKind.i64 (s.pc + 1)), wt := (mZ (Zaj (toZ s_1.wt) [iB s_1, iD s_1, s_1.r0]) ++ []) }))), I (0)]) else False else False else False else wO h.w0 ∧ wO h.w1 ∧ wO h.w2 ∧ wO h.w3 ∧ wLs ss (stI i ss (sesL (1) { s with pc := (IntKind.wrap IntKind.i64 (s.pc + 1)), wt := (mZ (Zaj (toZ s_1.wt) [iB s_1, iD s_1, s_1.r0]) ++ []) })) ∧ wO h.tr ∧ K (DV.tup [DV.agg (ZaY (1) h (stI i ss (sesL (1) { s with pc := (IntKind.wrap IntKind.i64 (s.pc + 1)), wt := (mZ (Zaj (toZ s_1.wt) [iB s_1, iD s_1, s_1.r0]) ++ []) }))), I (0)]) else bif decide (iA s_1 = 3) then bif decide (@Nat.cast Int _ (List.length h.tr) < 512) then bif ixI i ss then foA i ss ∧ bif ixI i ss then foA i ss ∧ bif rmT h then wO h.w0 ∧ wO h.w1 ∧ wO h.w2 ∧ wO h.w3 ∧ wLs ss (stI i ss (sesL (1) { s with pc := (IntKind.wrap IntKind.i64 (s.pc + 1)), wt := (mZ (Zaj (toZ s_1.wt) [iB s_1, iD s_1, s_1.r0]) ++ []) })) ∧ whole (List.length h.tr + 1) (List.take (List.length h.tr) h.tr ++ [[vN s.id, vN s.lb, vN (1), vN s_1.r3]]) ∧ K (DV.tup [DV.agg (ZaY (1) { h with tr := (List.take (List.length h.tr) h.tr ++ [[vN s.id, vN s.lb, vN (1), vN s_1.r3]]) } (stI i ss (sesL (1) { s with pc := (IntKind.wrap IntKind.i64 (s.pc + 1)), wt := (mZ (Zaj (toZ s_1.wt) [iB s_1, iD s_1, s_1.r0]) ++ []) }))), I (0)]) else False else False else False else wO h.w0 ∧ wO h.w1 ∧ wO h.w2 ∧ wO h.w3 ∧ wLs ss (stI i ss (sesL (1) { s with pc := (IntKind.wrap IntKind.i64 (s.pc + 1)), wt := (mZ (Zaj (toZ s_1.wt) [iB s_1, iD s_1, s_1.r0]) ++ []) })) ∧ wO h.tr ∧ K (DV.tup [DV.agg (ZaY (1) h (stI i ss (sesL (1) { s with pc := (IntKind.wrap IntKind.i64 (s.pc + 1)), wt := (mZ (Zaj (toZ s_1.wt) [iB s_1, iD s_1, s_1.r0]) ++ []) }))), I (0)]) else False else False else False else False else False else bif decide (iA s_1 = 1) then bif okZ (3) s_1.wt then bif Ze7 (toZ s_1.wt) [iB s_1, iD s_1, s_1.r1] != 0 then K (DV.tup [DV.agg mac0, I (1600)]) else t = true ∧ [DV.agg (macL (0) h ss)] = [DV.agg (macL (0) h ss)] ∧ ZcU (List.map (sesL (1)) ss) (Int.toNat i) (1) s ∧ bif ixI i ss then foA i ss ∧ foB i ss ∧ whole (List.length (mZ (Zaj (toZ s_1.wt) [iB s_1, iD s_1, s_1.r1]))) (mZ (Zaj (toZ s_1.wt) [iB s_1, iD s_1, s_1.r1]) ++ []) ∧ bif ixI i ss then foA i ss ∧ bif ixI i ss then foA i ss ∧ bif decide (iA s_1 = 0) then bif decide (@Nat.cast Int _ (List.length h.tr) < 512) then bif ixI i ss then foA i ss ∧ bif ixI i ss then foA i ss ∧ bif rmT h then wO h.w0 ∧ wO h.w1 ∧ wO h.w2 ∧ wO h.w3 ∧ wLs ss (stI i ss (sesL (1) { s with pc := (IntKind.wrap IntKind.i64 (s.pc + 1)), wt := (mZ (Zaj (toZ s_1.wt) [iB s_1, iD s_1, s_1.r1]) ++ []) })) ∧ whole (List.length h.tr + 1) (List.take (List.length h.tr) h.tr ++ [[vN s.id, vN s.lb, vN (1), vN s_1.r0]]) ∧ K (DV.tup [DV.agg (ZaY (1) { h with tr := (List.take (List.length h.tr) h.tr ++ [[vN s.id, vN s.lb, vN (1), vN s_1.r0]]) } (stI i ss (sesL (1) { s with pc := (IntKind.wrap IntKind.i64 (s.pc + 1)), wt := (mZ (Zaj (toZ s_1.wt) [iB s_1, iD s_1, s_1.r1]) ++ []) }))), I (0)]) else False else False else False else wO h.w0 ∧ wO h.w1 ∧ wO h.w2 ∧ wO h.w3 ∧ wLs ss (stI i ss (sesL (1) { s with pc := (IntKind.wrap IntKind.i64 (s.pc + 1)), wt := (mZ (Zaj (toZ s_1.wt) [iB s_1, iD s_1, s_1.r1]) ++ []) })) ∧ wO h.tr ∧ K (DV.tup [DV.agg (ZaY (1) h (stI i ss (sesL (1) { s with pc := (IntKind.wrap IntKind.i64 (s.pc + 1)), wt := (mZ (Zaj (toZ s_1.wt) [iB s_1, iD s_1, s_1.r1]) ++ []) }))), I (0)]) else bif decide (iA s_1 = 1) then bif decide (@Nat.cast Int _ (List.length h.tr) < 512) then bif ixI i ss then foA i ss ∧ bif ixI i ss then foA i ss ∧ bif rmT h then wO h.w0 ∧ wO h.w1 ∧ wO h.w2 ∧ wO h.w3 ∧ wLs ss (stI i ss (sesL (1) { s with pc := (IntKind.wrap IntKind.i64 (s.pc + 1)), wt := (mZ (Zaj (toZ s_1.wt) [iB s_1, iD s_1, s_1.r1]) ++ []) })) ∧ whole (List.length h.tr + 1) (List.take (List.length h.tr) h.tr ++ [[vN s.id, vN s.lb, vN (1), vN s_1.r1]]) ∧ K (DV.tup [DV.agg (ZaY (1) { h with tr := (List.take (List.length h.tr) h.tr ++ [[vN s.id, vN s.lb, vN (1), vN s_1.r1]]) } (stI i ss (sesL (1) { s with pc := (IntKind.wrap IntKind.i64 (s.pc + 1)), wt := (mZ (Zaj (toZ s_1.wt) [iB s_1, iD s_1, s_1.r1]) ++ []) }))), I (0)]) else False else False else False else wO h.w0 ∧ wO h.w1 ∧ wO h.w2 ∧ wO h.w3 ∧ wLs ss (stI i ss (sesL (1) { s with pc := (IntKind.wrap IntKind.i64 (s.pc + 1)), wt := (mZ (Zaj (toZ s_1.wt) [iB s_1, iD s_1, s_1.r1]) ++ []) })) ∧ wO h.tr ∧ K (DV.tup [DV.agg (ZaY (1) h (stI i ss (sesL (1) { s with pc := (IntKind.wrap IntKind.i64 (s.pc + 1)), wt := (mZ (Zaj (toZ s_1.wt) [iB s_1, iD s_1, s_1.r1]) ++ []) }))), I (0)]) else bif decide (iA s_1 = 2) then bif decide (@Nat.cast Int _ (List.length h.tr) < 512) then bif ixI i ss then foA i ss ∧ bif ixI i ss then foA i ss ∧ bif rmT h then wO h.w0 ∧ wO h.w1 ∧ wO h.w2 ∧ wO h.w3 ∧ wLs ss (stI i ss (sesL (1) { s with pc := (IntKind.wrap IntKind.i64 (s.pc + 1)), wt := (mZ (Zaj (toZ s_1.wt) [iB s_1, iD s_1, s_1.r1]) ++ []) })) ∧ whole (List.length h.tr + 1) (List.take (List.length h.tr) h.tr ++ [[vN s.id, vN s.lb, vN (1), vN s_1.r2]]) ∧ K (DV.tup [DV.agg (ZaY (1) { h with tr := (List.take (List.length h.tr) h.tr ++ [[vN s.id, vN s.lb, vN (1), vN s_1.r2]]) } (stI i ss (sesL (1) { s with pc := (IntKind.wrap IntKind.i64 (s.pc + 1)), wt := (mZ (Zaj (toZ s_1.wt) [iB s_1, iD s_1, s_1.r1]) ++ []) }))), I (0)]) else False else False else False else wO h.w0 ∧ wO h.w1 ∧ wO h.w2 ∧ wO h.w3 ∧ wLs ss (stI i ss (sesL (1) { s with pc := (IntKind.wrap IntKind.i64 (s.pc + 1)), wt := (mZ (Zaj (toZ s_1.wt) [iB s_1, iD s_1, s_1.r1]) ++ []) })) ∧ wO h.tr ∧ K (DV.tup [DV.agg (ZaY (1) h (stI i ss (sesL (1) { s with pc := (IntKind.wrap IntKind.i64 (s.pc + 1)), wt := (mZ (Zaj (toZ s_1.wt) [iB s_1, iD s_1, s_1.r1]) ++ []) }))), I (0)]) else bif decide (iA s_1 = 3) then bif decide (@Nat.cast Int _ (List.length h.tr) < 512) then bif ixI i ss then foA i ss ∧ bif ixI i ss then foA i ss ∧ bif rmT h then wO h.w0 ∧ wO h.w1 ∧ wO h.w2 ∧ wO h.w3 ∧ wLs ss (stI i ss (sesL (1) { s with pc := (IntKind.wrap IntKind.i64 (s.pc + 1)), wt := (mZ (Zaj (toZ s_1.wt) [iB s_1, iD s_1, s_1.r1]) ++ []) })) ∧ whole (List.length h.tr + 1) (List.take (List.length h.tr) h.tr ++ [[vN s.id, vN s.lb, vN (1), vN s_1.r3]]) ∧ K (DV.tup [DV.agg (ZaY (1) { h with tr := (List.take (List.length h.tr) h.tr ++ [[vN s.id, vN s.lb, vN (1), vN s_1.r3]]) } (stI i ss (sesL (1) { s with pc := (IntKind.wrap IntKind.i64 (s.pc + 1)), wt := (mZ (Zaj (toZ s_1.wt) [iB s_1, iD s_1, s_1.r1]) ++ []) }))), I (0)]) else False else False else False else wO h.w0 ∧ wO h.w1 ∧ wO h.w2 ∧ wO h.w3 ∧ wLs ss (stI i ss (sesL (1) { s with pc := (IntKind.wrap IntKind.i64 (s.pc + 1)), wt := (mZ (Zaj (toZ s_1.wt) [iB s_1, iD s_1, s_1.r1]) ++ []) })) ∧ wO h.tr ∧ K (DV.tup [DV.agg (ZaY (1) h (stI i ss (sesL (1) { s with pc := (IntKind.wrap IntKind.i64 (s.pc + 1)), wt := (mZ (Zaj (toZ s_1.wt) [iB s_1, iD s_1, s_1.r1]) ++ []) }))), I (0)]) else False else False else False else False else False else bif decide (iA s_1 = 2) then bif okZ (3) s_1.wt then bif Ze7 (toZ s_1.wt) [iB s_1, iD s_1, s_1.r2] != 0 then K (DV.tup [DV.agg mac0, I (1600)]) else t = true ∧ [DV.agg (macL (0) h ss)] = [DV.agg (macL (0) h ss)] ∧ ZcU (List.map (sesL (1)) ss) (Int.toNat i) (1) s ∧ bif ixI i ss then foA i ss ∧ foB i ss ∧ whole (List.length (mZ (Zaj (toZ s_1.wt) [iB s_1, iD s_1, s_1.r2]))) (mZ (Zaj (toZ s_1.wt) [iB s_1, iD s_1, s_1.r2]) ++ []) ∧ bif ixI i ss then foA i ss ∧ bif ixI i ss then foA i ss ∧ bif decide (iA s_1 = 0) then bif decide (@Nat.cast Int _ (List.length h.tr) < 512) then bif ixI i ss then foA i ss ∧ bif ixI i ss then foA i ss ∧ bif rmT h then wO h.w0 ∧ wO h.w1 ∧ wO h.w2 ∧ wO h.w3 ∧ wLs ss (stI i ss (sesL (1) { s with pc := (IntKind.wrap IntKind.i64 (s.pc + 1)), wt := (mZ (Zaj (toZ s_1.wt) [iB s_1, iD s_1, s_1.r2]) ++ []) })) ∧ whole (List.length h.tr + 1) (List.take (List.length h.tr) h.tr ++ [[vN s.id, vN s.lb, vN (1), vN s_1.r0]]) ∧ K (DV.tup [DV.agg (ZaY (1) { h with tr := (List.take (List.length h.tr) h.tr ++ [[vN s.id, vN s.lb, vN (1), vN s_1.r0]]) } (stI i ss (sesL (1) { s with pc := (IntKind.wrap IntKind.i64 (s.pc + 1)), wt := (mZ (Zaj (toZ s_1.wt) [iB s_1, iD s_1, s_1.r2]) ++ []) }))), I (0)]) else False else False else False else wO h.w0 ∧ wO h.w1 ∧ wO h.w2 ∧ wO h.w3 ∧ wLs ss (stI i ss (sesL (1) { s with pc := (IntKind.wrap IntKind.i64 (s.pc + 1)), wt := (mZ (Zaj (toZ s_1.wt) [iB s_1, iD s_1, s_1.r2]) ++ []) })) ∧ wO h.tr ∧ K (DV.tup [DV.agg (ZaY (1) h (stI i ss (sesL (1) { s with pc := (IntKind.wrap IntKind.i64 (s.pc + 1)), wt := (mZ (Zaj (toZ s_1.wt) [iB s_1, iD s_1, s_1.r2]) ++ []) }))), I (0)]) else bif decide (iA s_1 = 1) then bif decide (@Nat.cast Int _ (List.length h.tr) < 512) then bif ixI i ss then foA i ss ∧ bif ixI i ss then foA i ss ∧ bif rmT h then wO h.w0 ∧ wO h.w1 ∧ wO h.w2 ∧ wO h.w3 ∧ wLs ss (stI i ss (sesL (1) { s with pc := (IntKind.wrap IntKind.i64 (s.pc + 1)), wt := (mZ (Zaj (toZ s_1.wt) [iB s_1, iD s_1, s_1.r2]) ++ []) })) ∧ whole (List.length h.tr + 1) (List.take (List.length h.tr) h.tr ++ [[vN s.id, vN s.lb, vN (1), vN s_1.r1]]) ∧ K (DV.tup [DV.agg (ZaY (1) { h with tr := (List.take (List.length h.tr) h.tr ++ [[vN s.id, vN s.lb, vN (1), vN s_1.r1]]) } (stI i ss (sesL (1) { s with pc := (IntKind.wrap IntKind.i64 (s.pc + 1)), wt := (mZ (Zaj (toZ s_1.wt) [iB s_1, iD s_1, s_1.r2]) ++ []) }))), I (0)]) else False else False else False else wO h.w0 ∧ wO h.w1 ∧ wO h.w2 ∧ wO h.w3 ∧ wLs ss (stI i ss (sesL (1) { s with pc := (IntKind.wrap IntKind.i64 (s.pc + 1)), wt := (mZ (Zaj (toZ s_1.wt) [iB s_1, iD s_1, s_1.r2]) ++ []) })) ∧ wO h.tr ∧ K (DV.tup [DV.agg (ZaY (1) h (stI i ss (sesL (1) { s with pc := (IntKind.wrap IntKind.i64 (s.pc + 1)), wt := (mZ (Zaj (toZ s_1.wt) [iB s_1, iD s_1, s_1.r2]) ++ []) }))), I (0)]) else bif decide (iA s_1 = 2) then bif decide (@Nat.cast Int _ (List.length h.tr) < 512) then bif ixI i ss then foA i ss ∧ bif ixI i ss then foA i ss ∧ bif rmT h then wO h.w0 ∧ wO h.w1 ∧ wO h.w2 ∧ wO h.w3 ∧ wLs ss (stI i ss (sesL (1) { s with pc := (IntKind.wrap IntKind.i64 (s.pc + 1)), wt := (mZ (Zaj (toZ s_1.wt) [iB s_1, iD s_1, s_1.r2]) ++ []) })) ∧ whole (List.length h.tr + 1) (List.take (List.length h.tr) h.tr ++ [[vN s.id, vN s.lb, vN (1), vN s_1.r2]]) ∧ K (DV.tup [DV.agg (ZaY (1) { h with tr := (List.take (List.length h.tr) h.tr ++ [[vN s.id, vN s.lb, vN (1), vN s_1.r2]]) } (stI i ss (sesL (1) { s with pc := (IntKind.wrap IntKind.i64 (s.pc + 1)), wt := (mZ (Zaj (toZ s_1.wt) [iB s_1, iD s_1, s_1.r2]) ++ []) }))), I (0)]) else False else False else False else wO h.w0 ∧ wO h.w1 ∧ wO h.w2 ∧ wO h.w3 ∧ wLs ss (stI i ss (sesL (1) { s with pc := (IntKind.wrap IntKind.i64 (s.pc + 1)), wt := (mZ (Zaj (toZ s_1.wt) [iB s_1, iD s_1, s_1.r2]) ++ []) })) ∧ wO h.tr ∧ K (DV.tup [DV.agg (ZaY (1) h (stI i ss (sesL (1) { s with pc := (IntKind.wrap IntKind.i64 (s.pc + 1)), wt := (mZ (Zaj (toZ s_1.wt) [iB s_1, iD s_1, s_1.r2]) ++ []) }))), I (0)]) else bif decide (iA s_1 = 3) then bif decide (@Nat.cast Int _ (List.length h.tr) < 512) then bif ixI i ss then foA i ss ∧ bif ixI i ss then foA i ss ∧ bif rmT h then wO h.w0 ∧ wO h.w1 ∧ wO h.w2 ∧ wO h.w3 ∧ wLs ss (stI i ss (sesL (1) { s with pc := (IntKind.wrap IntKind.i64 (s.pc + 1)), wt := (mZ (Zaj (toZ s_1.wt) [iB s_1, iD s_1, s_1.r2]) ++ []) })) ∧ whole (List.length h.tr + 1) (List.take (List.length h.tr) h.tr ++ [[vN s.id, vN s.lb, vN (1), vN s_1.r3]]) ∧ K (DV.tup [DV.agg (ZaY (1) { h with tr := (List.take (List.length h.tr) h.tr ++ [[vN s.id, vN s.lb, vN (1), vN s_1.r3]]) } (stI i ss (sesL (1) { s with pc := (IntKind.wrap IntKind.i64 (s.pc + 1)), wt := (mZ (Zaj (toZ s_1.wt) [iB s_1, iD s_1, s_1.r2]) ++ []) }))), I (0)]) else False else False else False else wO h.w0 ∧ wO h.w1 ∧ wO h.w2 ∧ wO h.w3 ∧ wLs ss (stI i ss (sesL (1) { s with pc := (IntKind.wrap IntKind.i64 (s.pc + 1)), wt := (mZ (Zaj (toZ s_1.wt) [iB s_1, iD s_1, s_1.r2]) ++ []) })) ∧ wO h.tr ∧ K (DV.tup [DV.agg (ZaY (1) h (stI i ss (sesL (1) { s with pc := (IntKind.wrap IntKind.i64 (s.pc + 1)), wt := (mZ (Zaj (toZ s_1.wt) [iB s_1, iD s_1, s_1.r2]) ++ []) }))), I (0)]) else False else False else False else False else False else bif decide (iA s_1 = 3) then bif okZ (3) s_1.wt then bif Ze7 (toZ s_1.wt) [iB s_1, iD s_1, s_1.r3] != 0 then K (DV.tup [DV.agg mac0, I (1600)]) else t = true ∧ [DV.agg (macL (0) h ss)] = [DV.agg (macL (0) h ss)] ∧ ZcU (List.map (sesL (1)) ss) (Int.toNat i) (1) s ∧ bif ixI i ss then foA i ss ∧ foB i ss ∧ whole (List.length (mZ (Zaj (toZ s_1.wt) [iB s_1, iD s_1, s_1.r3]))) (mZ (Zaj (toZ s_1.wt) [iB s_1, iD s_1, s_1.r3]) ++ []) ∧ bif ixI i ss then foA i ss ∧ bif ixI i ss then foA i ss ∧ bif decide (iA s_1 = 0) then bif decide (@Nat.cast Int _ (List.length h.tr) < 512) then bif ixI i ss then foA i ss ∧ bif ixI i ss then foA i ss ∧ bif rmT h then wO h.w0 ∧ wO h.w1 ∧ wO h.w2 ∧ wO h.w3 ∧ wLs ss (stI i ss (sesL (1) { s with pc := (IntKind.wrap IntKind.i64 (s.pc + 1)), wt := (mZ (Zaj (toZ s_1.wt) [iB s_1, iD s_1, s_1.r3]) ++ []) })) ∧ whole (List.length h.tr + 1) (List.take (List.length h.tr) h.tr ++ [[vN s.id, vN s.lb, vN (1), vN s_1.r0]]) ∧ K (DV.tup [DV.agg (ZaY (1) { h with tr := (List.take (List.length h.tr) h.tr ++ [[vN s.id, vN s.lb, vN (1), vN s_1.r0]]) } (stI i ss (sesL (1) { s with pc := (IntKind.wrap IntKind.i64 (s.pc + 1)), wt := (mZ (Zaj (toZ s_1.wt) [iB s_1, iD s_1, s_1.r3]) ++ []) }))), I (0)]) else False else False else False else wO h.w0 ∧ wO h.w1 ∧ wO h.w2 ∧ wO h.w3 ∧ wLs ss (stI i ss (sesL (1) { s with pc := (IntKind.wrap IntKind.i64 (s.pc + 1)), wt := (mZ (Zaj (toZ s_1.wt) [iB s_1, iD s_1, s_1.r3]) ++ []) })) ∧ wO h.tr ∧ K (DV.tup [DV.agg (ZaY (1) h (stI i ss (sesL (1) { s with pc := (IntKind.wrap IntKind.i64 (s.pc + 1)), wt := (mZ (Zaj (toZ s_1.wt) [iB s_1, iD s_1, s_1.r3]) ++ []) }))), I (0)]) else bif decide (iA s_1 = 1) then bif decide (@Nat.cast Int _ (List.length h.tr) < 512) then bif ixI i ss then foA i ss ∧ bif ixI i ss then foA i ss ∧ bif rmT h then wO h.w0 ∧ wO h.w1 ∧ wO h.w2 ∧ wO h.w3 ∧ wLs ss (stI i ss (sesL (1) { s with pc := (IntKind.wrap IntKind.i64 (s.pc + 1)), wt := (mZ (Zaj (toZ s_1.wt) [iB s_1, iD s_1, s_1.r3]) ++ []) })) ∧ whole (List.length h.tr + 1) (List.take (List.length h.tr) h.tr ++ [[vN s.id, vN s.lb, vN (1), vN s_1.r1]]) ∧ K (DV.tup [DV.agg (ZaY (1) { h with tr := (List.take (List.length h.tr) h.tr ++ [[vN s.id, vN s.lb, vN (1), vN s_1.r1]]) } (stI i ss (sesL (1) { s with pc := (IntKind.wrap IntKind.i64 (s.pc + 1)), wt := (mZ (Zaj (toZ s_1.wt) [iB s_1, iD s_1, s_1.r3]) ++ []) }))), I (0)]) else False else False else False else wO h.w0 ∧ wO h.w1 ∧ wO h.w2 ∧ wO h.w3 ∧ wLs ss (stI i ss (sesL (1) { s with pc := (IntKind.wrap IntKind.i64 (s.pc + 1)), wt := (mZ (Zaj (toZ s_1.wt) [iB s_1, iD s_1, s_1.r3]) ++ []) })) ∧ wO h.tr ∧ K (DV.tup [DV.agg (ZaY (1) h (stI i ss (sesL (1) { s with pc := (IntKind.wrap IntKind.i64 (s.pc + 1)), wt := (mZ (Zaj (toZ s_1.wt) [iB s_1, iD s_1, s_1.r3]) ++ []) }))), I (0)]) else bif decide (iA s_1 = 2) then bif decide (@Nat.cast Int _ (List.length h.tr) < 512) then bif ixI i ss then foA i ss ∧ bif ixI i ss then foA i ss ∧ bif rmT h then wO h.w0 ∧ wO h.w1 ∧ wO h.w2 ∧ wO h.w3 ∧ wLs ss (stI i ss (sesL (1) { s with pc := (IntKind.wrap IntKind.i64 (s.pc + 1)), wt := (mZ (Zaj (toZ s_1.wt) [iB s_1, iD s_1, s_1.r3]) ++ []) })) ∧ whole (List.length h.tr + 1) (List.take (List.length h.tr) h.tr ++ [[vN s.id, vN s.lb, vN (1), vN s_1.r2]]) ∧ K (DV.tup [DV.agg (ZaY (1) { h with tr := (List.take (List.length h.tr) h.tr ++ [[vN s.id, vN s.lb, vN (1), vN s_1.r2]]) } (stI i ss (sesL (1) { s with pc := (IntKind.wrap IntKind.i64 (s.pc + 1)), wt := (mZ (Zaj (toZ s_1.wt) [iB s_1, iD s_1, s_1.r3]) ++ []) }))), I (0)]) else False else False else False else wO h.w0 ∧ wO h.w1 ∧ wO h.w2 ∧ wO h.w3 ∧ wLs ss (stI i ss (sesL (1) { s with pc := (IntKind.wrap IntKind.i64 (s.pc + 1)), wt := (mZ (Zaj (toZ s_1.wt) [iB s_1, iD s_1, s_1.r3]) ++ []) })) ∧ wO h.tr ∧ K (DV.tup [DV.agg (ZaY (1) h (stI i ss (sesL (1) { s with pc := (IntKind.wrap IntKind.i64 (s.pc + 1)), wt := (mZ (Zaj (toZ s_1.wt) [iB s_1, iD s_1, s_1.r3]) ++ []) }))), I (0)]) else bif decide (iA s_1 = 3) then bif decide (@Nat.cast Int _ (List.length h.tr) < 512) then bif ixI i ss then foA i ss ∧ bif ixI i ss then foA i ss ∧ bif rmT h then wO h.w0 ∧ wO h.w1 ∧ wO h.w2 ∧ wO h.w3 ∧ wLs ss (stI i ss (sesL (1) { s with pc := (IntKind.wrap IntKind.i64 (s.pc + 1)), wt := (mZ (Zaj (toZ s_1.wt) [iB s_1, iD s_1, s_1.r3]) ++ []) })) ∧ whole (List.length h.tr + 1) (List.take (List.length h.tr) h.tr ++ [[vN s.id, vN s.lb, vN (1), vN s_1.r3]]) ∧ K (DV.tup [DV.agg (ZaY (1) { h with tr := (List.take (List.length h.tr) h.tr ++ [[vN s.id, vN s.lb, vN (1), vN s_1.r3]]) } (stI i ss (sesL (1) { s with pc := (IntKind.wrap IntKind.i64 (s.pc + 1)), wt := (mZ (Zaj (toZ s_1.wt) [iB s_1, iD s_1, s_1.r3]) ++ []) }))), I (0)]) else False else False else False else wO h.w0 ∧ wO h.w1 ∧ wO h.w2 ∧ wO h.w3 ∧ wLs ss (stI i ss (sesL (1) { s with pc := (IntKind.wrap IntKind.i64 (s.pc + 1)), wt := (mZ (Zaj (toZ s_1.wt) [iB s_1, iD s_1, s_1.r3]) ++ []) })) ∧ wO h.tr ∧ K (DV.tup [DV.agg (ZaY (1) h (stI i ss (sesL (1) { s with pc := (IntKind.wrap IntKind.i64 (s.pc + 1)), wt := (mZ (Zaj (toZ s_1.wt) [iB s_1, iD s_1, s_1.r3]) ++ []) }))), I (0)]) else False else False else False else False else False else False else False else False else False) := by kernel_rfl
theorem Zm1 {h : Mh} {ss : List SesD} {i : Int} {s : SesD} (f : Foc h ss i s) : ZcU (List.map (sesL 0) ss) (Int.toNat i) 0 s := ZeK f.at'
theorem Zk7 {h : Mh} {ss : List SesD} {i : Int} {s : SesD} (f : Foc h ss i s) : (decide (0 ≤ i) && decide (i < @Nat.cast Int _ (List.length (List.map (sesL 0) ss)))) = true := by
  rw [List.length_map, decide_eq_true f.i0, decide_eq_true f.i1]; rfl
theorem ZrW {h : Mh} {ss : List SesD} {i : Int} {s : SesD} (f : Foc h ss i s) : 0 ≤ s.pc ∧ s.pc ≤ s.pg.length ∧ s.pg.length ≤ 16 := by
  obtain ⟨h1, h2⟩ := ZeO f.may
  refine ⟨h1, h2, ?_⟩
  have := f.may
  unfold Zam smay at this
  simp only [Bool.and_eq_true] at this
  have := Zik this.1.2.2.2.2
  rwa [Zal] at this
theorem cRun {h : Mh} {ss : List SesD} {i : Int} {s : SesD} (f : Foc h ss i s) : CT Tryz.prog 83 [.agg (macL 0 h ss), I i] (I (runV s)) := by
  refine ZoB .nil .nil .nil mixed Tryz.func83 rfl rfl rfl ?_
  rw [eRun]
  refine ⟨?_⟩
  simp only [Zk7 f, cond_true]
  refine ⟨s, Zm1 f, ?_⟩
  obtain ⟨h0, h1, h2⟩ := ZrW f
  unfold runV
  cases hs : s.st == 0
  · have : (s.st != 0) = true := by unfold bne; rw [hs]; rfl
    simp only [this, cond_true, Bool.false_and, cond_false]; exact AL.refl _
  · have : (s.st != 0) = false := by unfold bne; rw [hs]; rfl
    simp only [this, cond_false, Bool.true_and]
    cases hl : decide (s.pc < @Nat.cast Int _ (List.length s.pg))
    · have := of_decide_eq_false hl
      rw [decide_eq_true (show s.pc ≥ @Nat.cast Int _ (List.length s.pg) by omega)]
      exact AL.refl _
    · have hl' := of_decide_eq_true hl
      rw [decide_eq_false (show ¬ s.pc ≥ @Nat.cast Int _ (List.length s.pg) by omega), decide_eq_true h0, j_ok f.ok h0 hl' (by omega)]
      exact AL.refl _
theorem Zrc {R0 R1 R2 R3 : List (List D)} {s : SesD} (h : Zam R0 R1 R2 R3 s = true) : val8 s.r0 = true ∧ val8 s.r1 = true ∧ val8 s.r2 = true ∧ val8 s.r3 = true := by
  unfold Zam Znl v4 at h
  simp only [Bool.and_eq_true] at h
  exact h.2.2.2.1
theorem Zvi {R0 R1 R2 R3 : List (List D)} {s : SesD} (h : Zam R0 R1 R2 R3 s = true) : ZbE (toZ s.wt) = true := by
  unfold Zam Zj4 at h
  simp only [Bool.and_eq_true] at h
  exact h.2.1.2.1
theorem Zsh {c a b d : Int} (h : imay c a b d = true) (hc : c = 2 ∨ c = 3) : lab b = true ∧ lab d = true := by
  unfold imay at h
  rcases hc with rfl | rfl <;> simp at h <;> exact h.2
theorem Ztf {h : Mh} {ss : List SesD} {i : Int} {s : SesD} (f : Foc h ss i s) (h3 : iC s = 3) (hm : imay (iC s) (iA s) (iB s) (iD s) = true) {v : Int} (hv : val8 v = true) : Ze7 (toZ s.wt) [iB s, iD s, v] = 0 := by
  obtain ⟨b1, b2⟩ := Zsh hm (.inr h3)
  unfold Ze7
  rw [Zvi f.may]
  have b3 : ix4 (iD s) = true := b2
  have : okw [iB s, iD s, v] = true := by
    unfold okw
    simp [b1, b3, hv]
  rw [this]; rfl
theorem gRun : Goes Tryz.prog 83 := Zat Tryz.func83 (by kernel_rfl) rfl
theorem Zwk : Goes Tryz.prog 55 := Zat Tryz.func55 (by kernel_rfl) rfl
theorem Zv6 : Goes Tryz.prog 58 := Zat Tryz.func58 (by kernel_rfl) rfl
theorem ZqQ {t : Bool} {h : Mh} {ss : List SesD} (i : Int) (s : SesD) (hl : t = true → smM h ss = true ∧ ss.length ≤ 4) : Zbl Tryz.prog 58 (iCpF t h ss i s) :=
  Ziw (Zp5 _ _) (oIf fun ht => oAtD Zv6 (ZtQ h ss (hl ht).2 (hl ht).1) (Zlm (hl ht).1) rfl)
theorem Ztg {h : Mh} {ss : List SesD} {i : Int} {s : SesD} (f : Foc h ss i s) (hm : Zcq h ss i = true) (p : Int → Bool) : mAt p h ss i = ((s.st == 0) && (decide (s.pc < s.pg.length) && p (iC s))) := by
  unfold mAt
  rw [hm, f.at']
  unfold atS Zmp iC
  rw [List.drop_zero]; rfl
theorem oRun (h : Mh) (ss : List SesD) (i : Int) (hok : okM h ss = true) : Zad Tryz.prog 83 (sIf (Zcq h ss i) (sAtD [.agg (macL 0 h ss), I i] (I (runV (ss.getD i.toNat default))))) := oIf fun hm => by
  obtain ⟨s, f⟩ := foc hok hm
  rw [f.getD]
  exact oAtD gRun (cRun f) rfl rfl
theorem Zv8 (h : Mh) (ss : List SesD) (i : Int) (hok : okM h ss = true) : CT Tryz.prog 39 [.agg (macL 0 h ss), I i] (bif mAt (has1 3) h ss i then macR (ZbO h (ss.getD i.toNat default)) (ss.set i.toNat (Zcr (ss.getD i.toNat default))) 0 else macE 1600) := by
  refine ZoB (.cons (oAtD Zwk (ZtY h ss i hok) rfl rfl) (.cons (oRun h ss i hok) (.cons oWW .nil))) .nil (.cons (ZqQ i (ss.getD i.toNat default) (Zjm i hok)) (.cons ZlJ .nil)) mixed Tryz.func39 rfl rfl rfl ?_
  rw [Zvn]
  refine ⟨⟨rfl, ?_⟩⟩
  unfold ixI foA foB wO rmT stI wLs
  cases hm : Zcq h ss i with
  | false =>
    have e : mAt (has1 3) h ss i = false := by unfold mAt; rw [hm]; rfl
    rw [e]; exact Zrt 1600
  | true =>
    obtain ⟨s, f⟩ := foc hok hm
    rw [f.getD]
    refine ⟨rfl, rfl, ?_⟩
    obtain ⟨h0, h1, h2⟩ := ZrW f
    rw [Ztg f hm]
    cases hg : (s.st == 0) && decide (s.pc < s.pg.length) with
    | false =>
      have er : runV s = -1 := by unfold runV; rw [hg]; rfl
      rw [er, ← Bool.and_assoc, hg]
      exact Zrt 1600
    | true =>
      have er : runV s = iC s := by unfold runV; rw [hg]; rfl
      rw [er, ← Bool.and_assoc, hg, Bool.true_and]
      unfold has1
      cases e3 : iC s == 3
      · have : (iC s != 3) = true := by unfold bne; rw [e3]; rfl
        rw [this]; exact Zrt 1600
      · have : (iC s != 3) = false := by unfold bne; rw [e3]; rfl
        rw [this]
        simp only [Bool.and_eq_true, decide_eq_true_eq] at hg
        simp only [Zk7 f, cond_true, cond_false]
        refine ⟨s, Zm1 f, ?_⟩
        have hpc : (decide (0 ≤ s.pc) && decide (s.pc < @Nat.cast Int _ (List.length s.pg))) = true := by rw [decide_eq_true h0, decide_eq_true hg.2]; rfl
        have hw : IntKind.wrap IntKind.i64 (s.pc + 1) = s.pc + 1 := Zu8 h0 (by omega)
        have h3 : iC s = 3 := by simpa using e3
        have hmay := (Zo4 f.ok f.may hg.2).1
        have hA := ZrJ hmay (.inr (.inr (.inr (.inl h3))))
        have hwe : ∀ v, val8 v = true → Ze7 (toZ s.wt) [iB s, iD s, v] = 0 := fun v hv => Ztf f h3 hmay hv
        obtain ⟨v0, v1, v2, v3⟩ := Zrc f.may
        unfold Zcr ZbO
        rcases hA with e | e | e | e <;> simp only [e, f.ix, Zk7 f, cond_true, f.foAt, f.fo0, f.ow0, f.ow1, f.ow2, f.ow3, f.otr, f.oss, f.oev, true_and, hpc, ZrE f.ok h0 hg.2, hw, (ZaV f.ok).2.2, List.append_nil, ZmR, f.row, Int.reduceEq, decide_true, decide_false, cond_true, cond_false, ZrZ, ZrC, ZrS, ZrN, hwe _ v0, hwe _ v1, hwe _ v2, hwe _ v3, (show ((0 : Int) != 0) = false from rfl)]
        · exact Zb7 f h rfl i.toNat { s with pc := s.pc + 1, wt := mZ (Zaj (toZ s.wt) [iB s, iD s, s.r0]) } s.id s.lb 1 s.r0
        · exact Zb7 f h rfl i.toNat { s with pc := s.pc + 1, wt := mZ (Zaj (toZ s.wt) [iB s, iD s, s.r1]) } s.id s.lb 1 s.r1
        · exact Zb7 f h rfl i.toNat { s with pc := s.pc + 1, wt := mZ (Zaj (toZ s.wt) [iB s, iD s, s.r2]) } s.id s.lb 1 s.r2
        · exact Zb7 f h rfl i.toNat { s with pc := s.pc + 1, wt := mZ (Zaj (toZ s.wt) [iB s, iD s, s.r3]) } s.id s.lb 1 s.r3
end

section
open Go Go.Proofs
def bB : SesD := ⟨5, 1, 1, [[vN 2, vN 0, vN 0, vN 1], [vN 3, vN 0, vN 1, vN 0]], 0, 0, 0, 0, 0, 0, [], [], 0, 0, 0, 0, 0⟩
def bA0 : SesD := ⟨3, 0, 3, [[vN 2, vN 0, vN 0, vN 0], [vN 1, vN 0, vN 0, vN 0], [vN 3, vN 0, vN 0, vN 0]], 0, 0, 0, 0, 0, 0, [], [], 0, 0, 0, 0, 0⟩
def bH0 : Mh := ⟨[[vN 5, vN 0, vN 0], [vN 6, vN 0, vN 0]], [[vN 7, vN 0, vN 0]], [], [[vN 9, vN 0, vN 0]], 0, 0, 0, 0, 9, []⟩
def bA1 : SesD := ⟨3, 0, 3, [[vN 2, vN 0, vN 0, vN 0], [vN 1, vN 0, vN 0, vN 0], [vN 3, vN 0, vN 0, vN 0]], 0, 1, 5, 0, 0, 0, [[vN 0, vN 0, vN 0]], [], 0, 0, 0, 0, 0⟩
def bH1 : Mh := ⟨[[vN 5, vN 0, vN 0], [vN 6, vN 0, vN 0]], [[vN 7, vN 0, vN 0]], [], [[vN 9, vN 0, vN 0]], 0, 0, 0, 0, 9, [[vN 3, vN 0, vN 0, vN 5]]⟩
def bA2 : SesD := ⟨3, 0, 3, [[vN 2, vN 0, vN 0, vN 0], [vN 1, vN 0, vN 0, vN 0], [vN 3, vN 0, vN 0, vN 0]], 0, 2, 10, 0, 0, 0, [[vN 0, vN 0, vN 0]], [], 0, 0, 0, 0, 0⟩
def bH2 : Mh := ⟨[[vN 5, vN 0, vN 0], [vN 6, vN 0, vN 0]], [[vN 7, vN 0, vN 0]], [], [[vN 9, vN 0, vN 0]], 0, 0, 0, 0, 9, [[vN 3, vN 0, vN 0, vN 5]]⟩
def bA3 : SesD := ⟨3, 0, 3, [[vN 2, vN 0, vN 0, vN 0], [vN 1, vN 0, vN 0, vN 0], [vN 3, vN 0, vN 0, vN 0]], 0, 3, 10, 0, 0, 0, [[vN 0, vN 0, vN 0]], [[vN 0, vN 0, vN 10]], 0, 0, 0, 0, 0⟩
def bH3 : Mh := ⟨[[vN 5, vN 0, vN 0], [vN 6, vN 0, vN 0]], [[vN 7, vN 0, vN 0]], [], [[vN 9, vN 0, vN 0]], 0, 0, 0, 0, 9, [[vN 3, vN 0, vN 0, vN 5], [vN 3, vN 0, vN 1, vN 10]]⟩
def bA4 : SesD := ⟨3, 0, 3, [[vN 2, vN 0, vN 0, vN 0], [vN 1, vN 0, vN 0, vN 0], [vN 3, vN 0, vN 0, vN 0]], 1, 3, 10, 0, 0, 0, [[vN 0, vN 0, vN 0]], [[vN 0, vN 0, vN 10]], 0, 0, 0, 0, 0⟩
def bH4 : Mh := ⟨[[vN 5, vN 0, vN 0], [vN 6, vN 0, vN 0]], [[vN 7, vN 0, vN 0]], [], [[vN 9, vN 0, vN 0]], 0, 0, 0, 0, 9, [[vN 3, vN 0, vN 0, vN 5], [vN 3, vN 0, vN 1, vN 10]]⟩
theorem eSt1 (K : DV → Prop) : (askH Tryz.prog (hkM spC [] [(58, ZeD), (128, jRun)]) Tryz.f79 [.agg [D.s 0 3 [[D.v (Value.int IntKind.i64 5), D.v (Value.int IntKind.i64 0), D.v (Value.int IntKind.i64 0)], [D.v (Value.int IntKind.i64 6), D.v (Value.int IntKind.i64 0), D.v (Value.int IntKind.i64 0)]] [], D.s 0 3 [[D.v (Value.int IntKind.i64 7), D.v (Value.int IntKind.i64 0), D.v (Value.int IntKind.i64 0)]] [], D.s 0 3 [] [], D.s 0 3 [[D.v (Value.int IntKind.i64 9), D.v (Value.int IntKind.i64 0), D.v (Value.int IntKind.i64 0)]] [], D.v (Value.int IntKind.i64 0), D.v (Value.int IntKind.i64 0), D.v (Value.int IntKind.i64 0), D.v (Value.int IntKind.i64 0), D.v (Value.int IntKind.i64 9), D.s 0 17 [[D.v (Value.int IntKind.i64 3), D.v (Value.int IntKind.i64 0), D.v (Value.int IntKind.i64 3), D.s 0 4 [[D.v (Value.int IntKind.i64 2), D.v (Value.int IntKind.i64 0), D.v (Value.int IntKind.i64 0), D.v (Value.int IntKind.i64 0)], [D.v (Value.int IntKind.i64 1), D.v (Value.int IntKind.i64 0), D.v (Value.int IntKind.i64 0), D.v (Value.int IntKind.i64 0)], [D.v (Value.int IntKind.i64 3), D.v (Value.int IntKind.i64 0), D.v (Value.int IntKind.i64 0), D.v (Value.int IntKind.i64 0)]] [], D.v (Value.int IntKind.i64 0), D.v (Value.int IntKind.i64 0), D.v (Value.int IntKind.i64 0), D.v (Value.int IntKind.i64 0), D.v (Value.int IntKind.i64 0), D.v (Value.int IntKind.i64 0), D.s 0 3 [] [], D.s 0 3 [] [], D.v (Value.int IntKind.i64 0), D.v (Value.int IntKind.i64 0), D.v (Value.int IntKind.i64 0), D.v (Value.int IntKind.i64 0), D.v (Value.int IntKind.i64 0)], [D.v (Value.int IntKind.i64 5), D.v (Value.int IntKind.i64 1), D.v (Value.int IntKind.i64 1), D.s 0 4 [[D.v (Value.int IntKind.i64 2), D.v (Value.int IntKind.i64 0), D.v (Value.int IntKind.i64 0), D.v (Value.int IntKind.i64 1)], [D.v (Value.int IntKind.i64 3), D.v (Value.int IntKind.i64 0), D.v (Value.int IntKind.i64 1), D.v (Value.int IntKind.i64 0)]] [], D.v (Value.int IntKind.i64 0), D.v (Value.int IntKind.i64 0), D.v (Value.int IntKind.i64 0), D.v (Value.int IntKind.i64 0), D.v (Value.int IntKind.i64 0), D.v (Value.int IntKind.i64 0), D.s 0 3 [] [], D.s 0 3 [] [], D.v (Value.int IntKind.i64 0), D.v (Value.int IntKind.i64 0), D.v (Value.int IntKind.i64 0), D.v (Value.int IntKind.i64 0), D.v (Value.int IntKind.i64 0)]] [], D.s 0 4 [] []], I 0] K) = (K (DV.tup [DV.agg (ZaY (1) ⟨[[vN (5), vN (0), vN (0)], [vN (6), vN (0), vN (0)]], [[vN (7), vN (0), vN (0)]], [], [[vN (9), vN (0), vN (0)]], (0), (0), (0), (0), (9), [[vN (3), vN (0), vN (0), vN (5)]]⟩ [(sesL (1) ⟨(3), (0), (3), [[vN (2), vN (0), vN (0), vN (0)], [vN (1), vN (0), vN (0), vN (0)], [vN (3), vN (0), vN (0), vN (0)]], (0), (1), (5), (0), (0), (0), [[vN (0), vN (0), vN (0)]], [], (0), (0), (0), (0), (0)⟩), (sesL (1) ⟨(5), (1), (1), [[vN (2), vN (0), vN (0), vN (1)], [vN (3), vN (0), vN (1), vN (0)]], (0), (0), (0), (0), (0), (0), [], [], (0), (0), (0), (0), (0)⟩)]), I (0)])) := by kernel_rfl
theorem cSt1 : CT Tryz.prog 79 [.agg (macL 0 bH0 [bA0, bB]), I 0] (macR bH1 [bA1, bB] 0) := by
  have e : macL 0 bH0 [bA0, bB] = [D.s 0 3 [[D.v (Value.int IntKind.i64 5), D.v (Value.int IntKind.i64 0), D.v (Value.int IntKind.i64 0)], [D.v (Value.int IntKind.i64 6), D.v (Value.int IntKind.i64 0), D.v (Value.int IntKind.i64 0)]] [], D.s 0 3 [[D.v (Value.int IntKind.i64 7), D.v (Value.int IntKind.i64 0), D.v (Value.int IntKind.i64 0)]] [], D.s 0 3 [] [], D.s 0 3 [[D.v (Value.int IntKind.i64 9), D.v (Value.int IntKind.i64 0), D.v (Value.int IntKind.i64 0)]] [], D.v (Value.int IntKind.i64 0), D.v (Value.int IntKind.i64 0), D.v (Value.int IntKind.i64 0), D.v (Value.int IntKind.i64 0), D.v (Value.int IntKind.i64 9), D.s 0 17 [[D.v (Value.int IntKind.i64 3), D.v (Value.int IntKind.i64 0), D.v (Value.int IntKind.i64 3), D.s 0 4 [[D.v (Value.int IntKind.i64 2), D.v (Value.int IntKind.i64 0), D.v (Value.int IntKind.i64 0), D.v (Value.int IntKind.i64 0)], [D.v (Value.int IntKind.i64 1), D.v (Value.int IntKind.i64 0), D.v (Value.int IntKind.i64 0), D.v (Value.int IntKind.i64 0)], [D.v (Value.int IntKind.i64 3), D.v (Value.int IntKind.i64 0), D.v (Value.int IntKind.i64 0), D.v (Value.int IntKind.i64 0)]] [], D.v (Value.int IntKind.i64 0), D.v (Value.int IntKind.i64 0), D.v (Value.int IntKind.i64 0), D.v (Value.int IntKind.i64 0), D.v (Value.int IntKind.i64 0), D.v (Value.int IntKind.i64 0), D.s 0 3 [] [], D.s 0 3 [] [], D.v (Value.int IntKind.i64 0), D.v (Value.int IntKind.i64 0), D.v (Value.int IntKind.i64 0), D.v (Value.int IntKind.i64 0), D.v (Value.int IntKind.i64 0)], [D.v (Value.int IntKind.i64 5), D.v (Value.int IntKind.i64 1), D.v (Value.int IntKind.i64 1), D.s 0 4 [[D.v (Value.int IntKind.i64 2), D.v (Value.int IntKind.i64 0), D.v (Value.int IntKind.i64 0), D.v (Value.int IntKind.i64 1)], [D.v (Value.int IntKind.i64 3), D.v (Value.int IntKind.i64 0), D.v (Value.int IntKind.i64 1), D.v (Value.int IntKind.i64 0)]] [], D.v (Value.int IntKind.i64 0), D.v (Value.int IntKind.i64 0), D.v (Value.int IntKind.i64 0), D.v (Value.int IntKind.i64 0), D.v (Value.int IntKind.i64 0), D.v (Value.int IntKind.i64 0), D.s 0 3 [] [], D.s 0 3 [] [], D.v (Value.int IntKind.i64 0), D.v (Value.int IntKind.i64 0), D.v (Value.int IntKind.i64 0), D.v (Value.int IntKind.i64 0), D.v (Value.int IntKind.i64 0)]] [], D.s 0 4 [] []] := rfl
  rw [e]
  refine ct_m ZbU .nil (.cons Zb5 (.cons Zia .nil)) mixed Tryz.func79 rfl rfl rfl ?_
  rw [eSt1]
  exact ⟨rfl⟩
theorem eSt2 (K : DV → Prop) : (askH Tryz.prog (hkM spC [] [(58, ZeD), (128, jRun)]) Tryz.f79 [.agg [D.s 0 3 [[D.v (Value.int IntKind.i64 5), D.v (Value.int IntKind.i64 0), D.v (Value.int IntKind.i64 0)], [D.v (Value.int IntKind.i64 6), D.v (Value.int IntKind.i64 0), D.v (Value.int IntKind.i64 0)]] [], D.s 0 3 [[D.v (Value.int IntKind.i64 7), D.v (Value.int IntKind.i64 0), D.v (Value.int IntKind.i64 0)]] [], D.s 0 3 [] [], D.s 0 3 [[D.v (Value.int IntKind.i64 9), D.v (Value.int IntKind.i64 0), D.v (Value.int IntKind.i64 0)]] [], D.v (Value.int IntKind.i64 0), D.v (Value.int IntKind.i64 0), D.v (Value.int IntKind.i64 0), D.v (Value.int IntKind.i64 0), D.v (Value.int IntKind.i64 9), D.s 0 17 [[D.v (Value.int IntKind.i64 3), D.v (Value.int IntKind.i64 0), D.v (Value.int IntKind.i64 3), D.s 0 4 [[D.v (Value.int IntKind.i64 2), D.v (Value.int IntKind.i64 0), D.v (Value.int IntKind.i64 0), D.v (Value.int IntKind.i64 0)], [D.v (Value.int IntKind.i64 1), D.v (Value.int IntKind.i64 0), D.v (Value.int IntKind.i64 0), D.v (Value.int IntKind.i64 0)], [D.v (Value.int IntKind.i64 3), D.v (Value.int IntKind.i64 0), D.v (Value.int IntKind.i64 0), D.v (Value.int IntKind.i64 0)]] [], D.v (Value.int IntKind.i64 0), D.v (Value.int IntKind.i64 1), D.v (Value.int IntKind.i64 5), D.v (Value.int IntKind.i64 0), D.v (Value.int IntKind.i64 0), D.v (Value.int IntKind.i64 0), D.s 0 3 [[D.v (Value.int IntKind.i64 0), D.v (Value.int IntKind.i64 0), D.v (Value.int IntKind.i64 0)]] [], D.s 0 3 [] [], D.v (Value.int IntKind.i64 0), D.v (Value.int IntKind.i64 0), D.v (Value.int IntKind.i64 0), D.v (Value.int IntKind.i64 0), D.v (Value.int IntKind.i64 0)], [D.v (Value.int IntKind.i64 5), D.v (Value.int IntKind.i64 1), D.v (Value.int IntKind.i64 1), D.s 0 4 [[D.v (Value.int IntKind.i64 2), D.v (Value.int IntKind.i64 0), D.v (Value.int IntKind.i64 0), D.v (Value.int IntKind.i64 1)], [D.v (Value.int IntKind.i64 3), D.v (Value.int IntKind.i64 0), D.v (Value.int IntKind.i64 1), D.v (Value.int IntKind.i64 0)]] [], D.v (Value.int IntKind.i64 0), D.v (Value.int IntKind.i64 0), D.v (Value.int IntKind.i64 0), D.v (Value.int IntKind.i64 0), D.v (Value.int IntKind.i64 0), D.v (Value.int IntKind.i64 0), D.s 0 3 [] [], D.s 0 3 [] [], D.v (Value.int IntKind.i64 0), D.v (Value.int IntKind.i64 0), D.v (Value.int IntKind.i64 0), D.v (Value.int IntKind.i64 0), D.v (Value.int IntKind.i64 0)]] [], D.s 0 4 [[D.v (Value.int IntKind.i64 3), D.v (Value.int IntKind.i64 0), D.v (Value.int IntKind.i64 0), D.v (Value.int IntKind.i64 5)]] []], I 0] K) = (K (DV.tup [DV.agg (ZaY (1) ⟨[[vN (5), vN (0), vN (0)], [vN (6), vN (0), vN (0)]], [[vN (7), vN (0), vN (0)]], [], [[vN (9), vN (0), vN (0)]], (0), (0), (0), (0), (9), [[vN (3), vN (0), vN (0), vN (5)]]⟩ [(sesL (1) ⟨(3), (0), (3), [[vN (2), vN (0), vN (0), vN (0)], [vN (1), vN (0), vN (0), vN (0)], [vN (3), vN (0), vN (0), vN (0)]], (0), (2), (10), (0), (0), (0), [[vN (0), vN (0), vN (0)]], [], (0), (0), (0), (0), (0)⟩), (sesL (1) ⟨(5), (1), (1), [[vN (2), vN (0), vN (0), vN (1)], [vN (3), vN (0), vN (1), vN (0)]], (0), (0), (0), (0), (0), (0), [], [], (0), (0), (0), (0), (0)⟩)]), I (0)])) := by kernel_rfl
theorem cSt2 : CT Tryz.prog 79 [.agg (macL 0 bH1 [bA1, bB]), I 0] (macR bH2 [bA2, bB] 0) := by
  have e : macL 0 bH1 [bA1, bB] = [D.s 0 3 [[D.v (Value.int IntKind.i64 5), D.v (Value.int IntKind.i64 0), D.v (Value.int IntKind.i64 0)], [D.v (Value.int IntKind.i64 6), D.v (Value.int IntKind.i64 0), D.v (Value.int IntKind.i64 0)]] [], D.s 0 3 [[D.v (Value.int IntKind.i64 7), D.v (Value.int IntKind.i64 0), D.v (Value.int IntKind.i64 0)]] [], D.s 0 3 [] [], D.s 0 3 [[D.v (Value.int IntKind.i64 9), D.v (Value.int IntKind.i64 0), D.v (Value.int IntKind.i64 0)]] [], D.v (Value.int IntKind.i64 0), D.v (Value.int IntKind.i64 0), D.v (Value.int IntKind.i64 0), D.v (Value.int IntKind.i64 0), D.v (Value.int IntKind.i64 9), D.s 0 17 [[D.v (Value.int IntKind.i64 3), D.v (Value.int IntKind.i64 0), D.v (Value.int IntKind.i64 3), D.s 0 4 [[D.v (Value.int IntKind.i64 2), D.v (Value.int IntKind.i64 0), D.v (Value.int IntKind.i64 0), D.v (Value.int IntKind.i64 0)], [D.v (Value.int IntKind.i64 1), D.v (Value.int IntKind.i64 0), D.v (Value.int IntKind.i64 0), D.v (Value.int IntKind.i64 0)], [D.v (Value.int IntKind.i64 3), D.v (Value.int IntKind.i64 0), D.v (Value.int IntKind.i64 0), D.v (Value.int IntKind.i64 0)]] [], D.v (Value.int IntKind.i64 0), D.v (Value.int IntKind.i64 1), D.v (Value.int IntKind.i64 5), D.v (Value.int IntKind.i64 0), D.v (Value.int IntKind.i64 0), D.v (Value.int IntKind.i64 0), D.s 0 3 [[D.v (Value.int IntKind.i64 0), D.v (Value.int IntKind.i64 0), D.v (Value.int IntKind.i64 0)]] [], D.s 0 3 [] [], D.v (Value.int IntKind.i64 0), D.v (Value.int IntKind.i64 0), D.v (Value.int IntKind.i64 0), D.v (Value.int IntKind.i64 0), D.v (Value.int IntKind.i64 0)], [D.v (Value.int IntKind.i64 5), D.v (Value.int IntKind.i64 1), D.v (Value.int IntKind.i64 1), D.s 0 4 [[D.v (Value.int IntKind.i64 2), D.v (Value.int IntKind.i64 0), D.v (Value.int IntKind.i64 0), D.v (Value.int IntKind.i64 1)], [D.v (Value.int IntKind.i64 3), D.v (Value.int IntKind.i64 0), D.v (Value.int IntKind.i64 1), D.v (Value.int IntKind.i64 0)]] [], D.v (Value.int IntKind.i64 0), D.v (Value.int IntKind.i64 0), D.v (Value.int IntKind.i64 0), D.v (Value.int IntKind.i64 0), D.v (Value.int IntKind.i64 0), D.v (Value.int IntKind.i64 0), D.s 0 3 [] [], D.s 0 3 [] [], D.v (Value.int IntKind.i64 0), D.v (Value.int IntKind.i64 0), D.v (Value.int IntKind.i64 0), D.v (Value.int IntKind.i64 0), D.v (Value.int IntKind.i64 0)]] [], D.s 0 4 [[D.v (Value.int IntKind.i64 3), D.v (Value.int IntKind.i64 0), D.v (Value.int IntKind.i64 0), D.v (Value.int IntKind.i64 5)]] []] := rfl
  rw [e]
  refine ct_m ZbU .nil (.cons Zb5 (.cons Zia .nil)) mixed Tryz.func79 rfl rfl rfl ?_
  rw [eSt2]
  exact ⟨rfl⟩
theorem eSt3 (K : DV → Prop) : (askH Tryz.prog (hkM spC [] [(58, ZeD), (128, jRun)]) Tryz.f79 [.agg [D.s 0 3 [[D.v (Value.int IntKind.i64 5), D.v (Value.int IntKind.i64 0), D.v (Value.int IntKind.i64 0)], [D.v (Value.int IntKind.i64 6), D.v (Value.int IntKind.i64 0), D.v (Value.int IntKind.i64 0)]] [], D.s 0 3 [[D.v (Value.int IntKind.i64 7), D.v (Value.int IntKind.i64 0), D.v (Value.int IntKind.i64 0)]] [], D.s 0 3 [] [], D.s 0 3 [[D.v (Value.int IntKind.i64 9), D.v (Value.int IntKind.i64 0), D.v (Value.int IntKind.i64 0)]] [], D.v (Value.int IntKind.i64 0), D.v (Value.int IntKind.i64 0), D.v (Value.int IntKind.i64 0), D.v (Value.int IntKind.i64 0), D.v (Value.int IntKind.i64 9), D.s 0 17 [[D.v (Value.int IntKind.i64 3), D.v (Value.int IntKind.i64 0), D.v (Value.int IntKind.i64 3), D.s 0 4 [[D.v (Value.int IntKind.i64 2), D.v (Value.int IntKind.i64 0), D.v (Value.int IntKind.i64 0), D.v (Value.int IntKind.i64 0)], [D.v (Value.int IntKind.i64 1), D.v (Value.int IntKind.i64 0), D.v (Value.int IntKind.i64 0), D.v (Value.int IntKind.i64 0)], [D.v (Value.int IntKind.i64 3), D.v (Value.int IntKind.i64 0), D.v (Value.int IntKind.i64 0), D.v (Value.int IntKind.i64 0)]] [], D.v (Value.int IntKind.i64 0), D.v (Value.int IntKind.i64 2), D.v (Value.int IntKind.i64 10), D.v (Value.int IntKind.i64 0), D.v (Value.int IntKind.i64 0), D.v (Value.int IntKind.i64 0), D.s 0 3 [[D.v (Value.int IntKind.i64 0), D.v (Value.int IntKind.i64 0), D.v (Value.int IntKind.i64 0)]] [], D.s 0 3 [] [], D.v (Value.int IntKind.i64 0), D.v (Value.int IntKind.i64 0), D.v (Value.int IntKind.i64 0), D.v (Value.int IntKind.i64 0), D.v (Value.int IntKind.i64 0)], [D.v (Value.int IntKind.i64 5), D.v (Value.int IntKind.i64 1), D.v (Value.int IntKind.i64 1), D.s 0 4 [[D.v (Value.int IntKind.i64 2), D.v (Value.int IntKind.i64 0), D.v (Value.int IntKind.i64 0), D.v (Value.int IntKind.i64 1)], [D.v (Value.int IntKind.i64 3), D.v (Value.int IntKind.i64 0), D.v (Value.int IntKind.i64 1), D.v (Value.int IntKind.i64 0)]] [], D.v (Value.int IntKind.i64 0), D.v (Value.int IntKind.i64 0), D.v (Value.int IntKind.i64 0), D.v (Value.int IntKind.i64 0), D.v (Value.int IntKind.i64 0), D.v (Value.int IntKind.i64 0), D.s 0 3 [] [], D.s 0 3 [] [], D.v (Value.int IntKind.i64 0), D.v (Value.int IntKind.i64 0), D.v (Value.int IntKind.i64 0), D.v (Value.int IntKind.i64 0), D.v (Value.int IntKind.i64 0)]] [], D.s 0 4 [[D.v (Value.int IntKind.i64 3), D.v (Value.int IntKind.i64 0), D.v (Value.int IntKind.i64 0), D.v (Value.int IntKind.i64 5)]] []], I 0] K) = (K (DV.tup [DV.agg (ZaY (1) ⟨[[vN (5), vN (0), vN (0)], [vN (6), vN (0), vN (0)]], [[vN (7), vN (0), vN (0)]], [], [[vN (9), vN (0), vN (0)]], (0), (0), (0), (0), (9), [[vN (3), vN (0), vN (0), vN (5)], [vN (3), vN (0), vN (1), vN (10)]]⟩ [(sesL (1) ⟨(3), (0), (3), [[vN (2), vN (0), vN (0), vN (0)], [vN (1), vN (0), vN (0), vN (0)], [vN (3), vN (0), vN (0), vN (0)]], (0), (3), (10), (0), (0), (0), [[vN (0), vN (0), vN (0)]], [[vN (0), vN (0), vN (10)]], (0), (0), (0), (0), (0)⟩), (sesL (1) ⟨(5), (1), (1), [[vN (2), vN (0), vN (0), vN (1)], [vN (3), vN (0), vN (1), vN (0)]], (0), (0), (0), (0), (0), (0), [], [], (0), (0), (0), (0), (0)⟩)]), I (0)])) := by kernel_rfl
theorem cSt3 : CT Tryz.prog 79 [.agg (macL 0 bH2 [bA2, bB]), I 0] (macR bH3 [bA3, bB] 0) := by
  have e : macL 0 bH2 [bA2, bB] = [D.s 0 3 [[D.v (Value.int IntKind.i64 5), D.v (Value.int IntKind.i64 0), D.v (Value.int IntKind.i64 0)], [D.v (Value.int IntKind.i64 6), D.v (Value.int IntKind.i64 0), D.v (Value.int IntKind.i64 0)]] [], D.s 0 3 [[D.v (Value.int IntKind.i64 7), D.v (Value.int IntKind.i64 0), D.v (Value.int IntKind.i64 0)]] [], D.s 0 3 [] [], D.s 0 3 [[D.v (Value.int IntKind.i64 9), D.v (Value.int IntKind.i64 0), D.v (Value.int IntKind.i64 0)]] [], D.v (Value.int IntKind.i64 0), D.v (Value.int IntKind.i64 0), D.v (Value.int IntKind.i64 0), D.v (Value.int IntKind.i64 0), D.v (Value.int IntKind.i64 9), D.s 0 17 [[D.v (Value.int IntKind.i64 3), D.v (Value.int IntKind.i64 0), D.v (Value.int IntKind.i64 3), D.s 0 4 [[D.v (Value.int IntKind.i64 2), D.v (Value.int IntKind.i64 0), D.v (Value.int IntKind.i64 0), D.v (Value.int IntKind.i64 0)], [D.v (Value.int IntKind.i64 1), D.v (Value.int IntKind.i64 0), D.v (Value.int IntKind.i64 0), D.v (Value.int IntKind.i64 0)], [D.v (Value.int IntKind.i64 3), D.v (Value.int IntKind.i64 0), D.v (Value.int IntKind.i64 0), D.v (Value.int IntKind.i64 0)]] [], D.v (Value.int IntKind.i64 0), D.v (Value.int IntKind.i64 2), D.v (Value.int IntKind.i64 10), D.v (Value.int IntKind.i64 0), D.v (Value.int IntKind.i64 0), D.v (Value.int IntKind.i64 0), D.s 0 3 [[D.v (Value.int IntKind.i64 0), D.v (Value.int IntKind.i64 0), D.v (Value.int IntKind.i64 0)]] [], D.s 0 3 [] [], D.v (Value.int IntKind.i64 0), D.v (Value.int IntKind.i64 0), D.v (Value.int IntKind.i64 0), D.v (Value.int IntKind.i64 0), D.v (Value.int IntKind.i64 0)], [D.v (Value.int IntKind.i64 5), D.v (Value.int IntKind.i64 1), D.v (Value.int IntKind.i64 1), D.s 0 4 [[D.v (Value.int IntKind.i64 2), D.v (Value.int IntKind.i64 0), D.v (Value.int IntKind.i64 0), D.v (Value.int IntKind.i64 1)], [D.v (Value.int IntKind.i64 3), D.v (Value.int IntKind.i64 0), D.v (Value.int IntKind.i64 1), D.v (Value.int IntKind.i64 0)]] [], D.v (Value.int IntKind.i64 0), D.v (Value.int IntKind.i64 0), D.v (Value.int IntKind.i64 0), D.v (Value.int IntKind.i64 0), D.v (Value.int IntKind.i64 0), D.v (Value.int IntKind.i64 0), D.s 0 3 [] [], D.s 0 3 [] [], D.v (Value.int IntKind.i64 0), D.v (Value.int IntKind.i64 0), D.v (Value.int IntKind.i64 0), D.v (Value.int IntKind.i64 0), D.v (Value.int IntKind.i64 0)]] [], D.s 0 4 [[D.v (Value.int IntKind.i64 3), D.v (Value.int IntKind.i64 0), D.v (Value.int IntKind.i64 0), D.v (Value.int IntKind.i64 5)]] []] := rfl
  rw [e]
  refine ct_m ZbU .nil (.cons Zb5 (.cons Zia .nil)) mixed Tryz.func79 rfl rfl rfl ?_
  rw [eSt3]
  exact ⟨rfl⟩
theorem eSt4 (K : DV → Prop) : (askH Tryz.prog (hkM spC [] [(58, ZeD), (128, jRun)]) Tryz.f79 [.agg [D.s 0 3 [[D.v (Value.int IntKind.i64 5), D.v (Value.int IntKind.i64 0), D.v (Value.int IntKind.i64 0)], [D.v (Value.int IntKind.i64 6), D.v (Value.int IntKind.i64 0), D.v (Value.int IntKind.i64 0)]] [], D.s 0 3 [[D.v (Value.int IntKind.i64 7), D.v (Value.int IntKind.i64 0), D.v (Value.int IntKind.i64 0)]] [], D.s 0 3 [] [], D.s 0 3 [[D.v (Value.int IntKind.i64 9), D.v (Value.int IntKind.i64 0), D.v (Value.int IntKind.i64 0)]] [], D.v (Value.int IntKind.i64 0), D.v (Value.int IntKind.i64 0), D.v (Value.int IntKind.i64 0), D.v (Value.int IntKind.i64 0), D.v (Value.int IntKind.i64 9), D.s 0 17 [[D.v (Value.int IntKind.i64 3), D.v (Value.int IntKind.i64 0), D.v (Value.int IntKind.i64 3), D.s 0 4 [[D.v (Value.int IntKind.i64 2), D.v (Value.int IntKind.i64 0), D.v (Value.int IntKind.i64 0), D.v (Value.int IntKind.i64 0)], [D.v (Value.int IntKind.i64 1), D.v (Value.int IntKind.i64 0), D.v (Value.int IntKind.i64 0), D.v (Value.int IntKind.i64 0)], [D.v (Value.int IntKind.i64 3), D.v (Value.int IntKind.i64 0), D.v (Value.int IntKind.i64 0), D.v (Value.int IntKind.i64 0)]] [], D.v (Value.int IntKind.i64 0), D.v (Value.int IntKind.i64 3), D.v (Value.int IntKind.i64 10), D.v (Value.int IntKind.i64 0), D.v (Value.int IntKind.i64 0), D.v (Value.int IntKind.i64 0), D.s 0 3 [[D.v (Value.int IntKind.i64 0), D.v (Value.int IntKind.i64 0), D.v (Value.int IntKind.i64 0)]] [], D.s 0 3 [[D.v (Value.int IntKind.i64 0), D.v (Value.int IntKind.i64 0), D.v (Value.int IntKind.i64 10)]] [], D.v (Value.int IntKind.i64 0), D.v (Value.int IntKind.i64 0), D.v (Value.int IntKind.i64 0), D.v (Value.int IntKind.i64 0), D.v (Value.int IntKind.i64 0)], [D.v (Value.int IntKind.i64 5), D.v (Value.int IntKind.i64 1), D.v (Value.int IntKind.i64 1), D.s 0 4 [[D.v (Value.int IntKind.i64 2), D.v (Value.int IntKind.i64 0), D.v (Value.int IntKind.i64 0), D.v (Value.int IntKind.i64 1)], [D.v (Value.int IntKind.i64 3), D.v (Value.int IntKind.i64 0), D.v (Value.int IntKind.i64 1), D.v (Value.int IntKind.i64 0)]] [], D.v (Value.int IntKind.i64 0), D.v (Value.int IntKind.i64 0), D.v (Value.int IntKind.i64 0), D.v (Value.int IntKind.i64 0), D.v (Value.int IntKind.i64 0), D.v (Value.int IntKind.i64 0), D.s 0 3 [] [], D.s 0 3 [] [], D.v (Value.int IntKind.i64 0), D.v (Value.int IntKind.i64 0), D.v (Value.int IntKind.i64 0), D.v (Value.int IntKind.i64 0), D.v (Value.int IntKind.i64 0)]] [], D.s 0 4 [[D.v (Value.int IntKind.i64 3), D.v (Value.int IntKind.i64 0), D.v (Value.int IntKind.i64 0), D.v (Value.int IntKind.i64 5)], [D.v (Value.int IntKind.i64 3), D.v (Value.int IntKind.i64 0), D.v (Value.int IntKind.i64 1), D.v (Value.int IntKind.i64 10)]] []], I 0] K) = (K (DV.tup [DV.agg (ZaY (1) ⟨[[vN (5), vN (0), vN (0)], [vN (6), vN (0), vN (0)]], [[vN (7), vN (0), vN (0)]], [], [[vN (9), vN (0), vN (0)]], (0), (0), (0), (0), (9), [[vN (3), vN (0), vN (0), vN (5)], [vN (3), vN (0), vN (1), vN (10)]]⟩ [(sesL (1) ⟨(3), (0), (3), [[vN (2), vN (0), vN (0), vN (0)], [vN (1), vN (0), vN (0), vN (0)], [vN (3), vN (0), vN (0), vN (0)]], (1), (3), (10), (0), (0), (0), [[vN (0), vN (0), vN (0)]], [[vN (0), vN (0), vN (10)]], (0), (0), (0), (0), (0)⟩), (sesL (1) ⟨(5), (1), (1), [[vN (2), vN (0), vN (0), vN (1)], [vN (3), vN (0), vN (1), vN (0)]], (0), (0), (0), (0), (0), (0), [], [], (0), (0), (0), (0), (0)⟩)]), I (0)])) := by kernel_rfl
theorem cSt4 : CT Tryz.prog 79 [.agg (macL 0 bH3 [bA3, bB]), I 0] (macR bH4 [bA4, bB] 0) := by
  have e : macL 0 bH3 [bA3, bB] = [D.s 0 3 [[D.v (Value.int IntKind.i64 5), D.v (Value.int IntKind.i64 0), D.v (Value.int IntKind.i64 0)], [D.v (Value.int IntKind.i64 6), D.v (Value.int IntKind.i64 0), D.v (Value.int IntKind.i64 0)]] [], D.s 0 3 [[D.v (Value.int IntKind.i64 7), D.v (Value.int IntKind.i64 0), D.v (Value.int IntKind.i64 0)]] [], D.s 0 3 [] [], D.s 0 3 [[D.v (Value.int IntKind.i64 9), D.v (Value.int IntKind.i64 0), D.v (Value.int IntKind.i64 0)]] [], D.v (Value.int IntKind.i64 0), D.v (Value.int IntKind.i64 0), D.v (Value.int IntKind.i64 0), D.v (Value.int IntKind.i64 0), D.v (Value.int IntKind.i64 9), D.s 0 17 [[D.v (Value.int IntKind.i64 3), D.v (Value.int IntKind.i64 0), D.v (Value.int IntKind.i64 3), D.s 0 4 [[D.v (Value.int IntKind.i64 2), D.v (Value.int IntKind.i64 0), D.v (Value.int IntKind.i64 0), D.v (Value.int IntKind.i64 0)], [D.v (Value.int IntKind.i64 1), D.v (Value.int IntKind.i64 0), D.v (Value.int IntKind.i64 0), D.v (Value.int IntKind.i64 0)], [D.v (Value.int IntKind.i64 3), D.v (Value.int IntKind.i64 0), D.v (Value.int IntKind.i64 0), D.v (Value.int IntKind.i64 0)]] [], D.v (Value.int IntKind.i64 0), D.v (Value.int IntKind.i64 3), D.v (Value.int IntKind.i64 10), D.v (Value.int IntKind.i64 0), D.v (Value.int IntKind.i64 0), D.v (Value.int IntKind.i64 0), D.s 0 3 [[D.v (Value.int IntKind.i64 0), D.v (Value.int IntKind.i64 0), D.v (Value.int IntKind.i64 0)]] [], D.s 0 3 [[D.v (Value.int IntKind.i64 0), D.v (Value.int IntKind.i64 0), D.v (Value.int IntKind.i64 10)]] [], D.v (Value.int IntKind.i64 0), D.v (Value.int IntKind.i64 0), D.v (Value.int IntKind.i64 0), D.v (Value.int IntKind.i64 0), D.v (Value.int IntKind.i64 0)], [D.v (Value.int IntKind.i64 5), D.v (Value.int IntKind.i64 1), D.v (Value.int IntKind.i64 1), D.s 0 4 [[D.v (Value.int IntKind.i64 2), D.v (Value.int IntKind.i64 0), D.v (Value.int IntKind.i64 0), D.v (Value.int IntKind.i64 1)], [D.v (Value.int IntKind.i64 3), D.v (Value.int IntKind.i64 0), D.v (Value.int IntKind.i64 1), D.v (Value.int IntKind.i64 0)]] [], D.v (Value.int IntKind.i64 0), D.v (Value.int IntKind.i64 0), D.v (Value.int IntKind.i64 0), D.v (Value.int IntKind.i64 0), D.v (Value.int IntKind.i64 0), D.v (Value.int IntKind.i64 0), D.s 0 3 [] [], D.s 0 3 [] [], D.v (Value.int IntKind.i64 0), D.v (Value.int IntKind.i64 0), D.v (Value.int IntKind.i64 0), D.v (Value.int IntKind.i64 0), D.v (Value.int IntKind.i64 0)]] [], D.s 0 4 [[D.v (Value.int IntKind.i64 3), D.v (Value.int IntKind.i64 0), D.v (Value.int IntKind.i64 0), D.v (Value.int IntKind.i64 5)], [D.v (Value.int IntKind.i64 3), D.v (Value.int IntKind.i64 0), D.v (Value.int IntKind.i64 1), D.v (Value.int IntKind.i64 10)]] []] := rfl
  rw [e]
  refine ct_m ZbU .nil (.cons Zb5 (.cons Zia .nil)) mixed Tryz.func79 rfl rfl rfl ?_
  rw [eSt4]
  exact ⟨rfl⟩
theorem Zrz : Zbl Tryz.prog 21 Zu5 := Zbm (.cons ZuO (.cons Ztr (.cons oRMm .nil))) .nil .nil mixed Tryz.func21 rfl (Zat Tryz.func21 (by kernel_rfl) rfl)
theorem Zur (K : DV → Prop) : (askH Tryz.prog (hkM [] [] [(21, Zu5)]) Tryz.f44 [] K) = (K (DV.agg [D.s (1) (3) [[vN (5), vN (0), vN (0)], [vN (6), vN (0), vN (0)]] [], D.s (1) (3) [[vN (7), vN (0), vN (0)]] [], D.s (1) (3) [] [], D.s (1) (3) [[vN (9), vN (0), vN (0)]] [], vN (0), vN (0), vN (0), vN (0), vN (9), D.s (1) (17) [[vN (3), vN (0), vN (3), D.s (1) (4) [[vN (2), vN (0), vN (0), vN (0)], [vN (1), vN (0), vN (0), vN (0)], [vN (3), vN (0), vN (0), vN (0)]] [], vN (0), vN (0), vN (0), vN (0), vN (0), vN (0), nilV, nilV, vN (0), vN (0), vN (0), vN (0), vN (0)], [vN (5), vN (1), vN (1), D.s (1) (4) [[vN (2), vN (0), vN (0), vN (1)], [vN (3), vN (0), vN (1), vN (0)]] [], vN (0), vN (0), vN (0), vN (0), vN (0), vN (0), nilV, nilV, vN (0), vN (0), vN (0), vN (0), vN (0)]] [], nilV])) := by kernel_rfl
theorem ZrH : CT Tryz.prog 44 [] (.agg (macL 1 bH0 [bA0, bB])) := by
  refine Zsf .nil .nil (.cons Zrz .nil) mixed Tryz.func44 rfl rfl rfl ?_
  rw [Zur]
  refine ⟨.aggO ?_⟩
  repeat (first | exact .nil | exact OL.refl _ | exact OL.nil _ | refine .cons ?_ ?_ | refine OL.rows ?_)
end

section
open Go Go.Proofs
def sStp : Spec := fun ds Q => match ds with
  | [d, _] => macA d fun _ ss => match ss with
    | [a, _] => bif a.st == 0 then (bif a.pc == 0 then sAtD [.agg (macL 0 bH0 [bA0, bB]), I 0] (macR bH1 [bA1, bB] 0) ds Q else bif a.pc == 1 then sAtD [.agg (macL 0 bH1 [bA1, bB]), I 0] (macR bH2 [bA2, bB] 0) ds Q else bif a.pc == 2 then sAtD [.agg (macL 0 bH2 [bA2, bB]), I 0] (macR bH3 [bA3, bB] 0) ds Q else sAtD [.agg (macL 0 bH3 [bA3, bB]), I 0] (macR bH4 [bA4, bB] 0) ds Q) else False
    | _ => False
  | _ => False
theorem gStp : Goes Tryz.prog 79 := Zat Tryz.func79 (by kernel_rfl) rfl
theorem oStp : Zad Tryz.prog 79 sStp := fun ds Q h => by
  unfold sStp at h; split at h
  · obtain ⟨m, ss, h, _⟩ := ZcK h
    split at h
    · rename_i a _ _
      cases h1 : a.st == 0
      · rw [h1] at h; exact h.elim
      · rw [h1] at h
        cases h2 : a.pc == 0
        · cases h3 : a.pc == 1
          · cases h4 : a.pc == 2
            · rw [h2, h3, h4] at h; exact oAtD gStp cSt4 rfl rfl _ Q h
            · rw [h2, h3, h4] at h; exact oAtD gStp cSt3 rfl rfl _ Q h
          · rw [h2, h3] at h; exact oAtD gStp cSt2 rfl rfl _ Q h
        · rw [h2] at h; exact oAtD gStp cSt1 rfl rfl _ Q h
    · exact h.elim
  · exact h.elim
def iStp : Inl := Zfn Tryz.prog [34, 3] (sF sStp)
theorem Ztk : Zbl Tryz.prog 79 iStp := Zd3 (oF oStp)
def iBeg : Inl := Zfn Tryz.prog [] (sF (sAtD [] (.agg (macL 1 bH0 [bA0, bB]))))
theorem ZpW : Zbl Tryz.prog 44 iBeg := Zd3 (oF (oAtD (Zat Tryz.func44 (by kernel_rfl) rfl) ZrH rfl rfl))
theorem Zro (K : DV → Prop) : (askH Tryz.prog (hkM [] [] [(44, iBeg), (79, iStp)]) Tryz.f43 [I 0, I 2] K) = (([] : List DV) = [] ∧ [DV.agg (macL (0) bH0 [bA0, bB]), I (0)] = [DV.agg (macL (0) bH0 [bA0, bB]), I (0)] ∧ [DV.agg (macL (0) bH1 [bA1, bB]), I (0)] = [DV.agg (macL (0) bH1 [bA1, bB]), I (0)] ∧ K (DV.agg [D.s (1) (3) [[D.v (Value.int IntKind.i64 (5)), D.v (Value.int IntKind.i64 (0)), D.v (Value.int IntKind.i64 (0))], [D.v (Value.int IntKind.i64 (6)), D.v (Value.int IntKind.i64 (0)), D.v (Value.int IntKind.i64 (0))]] [], D.s (1) (3) [[D.v (Value.int IntKind.i64 (7)), D.v (Value.int IntKind.i64 (0)), D.v (Value.int IntKind.i64 (0))]] [], D.s (1) (3) [] [], D.s (1) (3) [[D.v (Value.int IntKind.i64 (9)), D.v (Value.int IntKind.i64 (0)), D.v (Value.int IntKind.i64 (0))]] [], D.v (Value.int IntKind.i64 (0)), D.v (Value.int IntKind.i64 (0)), D.v (Value.int IntKind.i64 (0)), D.v (Value.int IntKind.i64 (0)), D.v (Value.int IntKind.i64 (9)), D.s (1) (17) [[D.v (Value.int IntKind.i64 (3)), D.v (Value.int IntKind.i64 (0)), D.v (Value.int IntKind.i64 (3)), D.s (1) (4) [[D.v (Value.int IntKind.i64 (2)), D.v (Value.int IntKind.i64 (0)), D.v (Value.int IntKind.i64 (0)), D.v (Value.int IntKind.i64 (0))], [D.v (Value.int IntKind.i64 (1)), D.v (Value.int IntKind.i64 (0)), D.v (Value.int IntKind.i64 (0)), D.v (Value.int IntKind.i64 (0))], [D.v (Value.int IntKind.i64 (3)), D.v (Value.int IntKind.i64 (0)), D.v (Value.int IntKind.i64 (0)), D.v (Value.int IntKind.i64 (0))]] [], D.v (Value.int IntKind.i64 (0)), D.v (Value.int IntKind.i64 (2)), D.v (Value.int IntKind.i64 (10)), D.v (Value.int IntKind.i64 (0)), D.v (Value.int IntKind.i64 (0)), D.v (Value.int IntKind.i64 (0)), D.s (1) (3) [[D.v (Value.int IntKind.i64 (0)), D.v (Value.int IntKind.i64 (0)), D.v (Value.int IntKind.i64 (0))]] [], D.s (1) (3) [] [], D.v (Value.int IntKind.i64 (0)), D.v (Value.int IntKind.i64 (0)), D.v (Value.int IntKind.i64 (0)), D.v (Value.int IntKind.i64 (0)), D.v (Value.int IntKind.i64 (0))], [D.v (Value.int IntKind.i64 (5)), D.v (Value.int IntKind.i64 (1)), D.v (Value.int IntKind.i64 (1)), D.s (1) (4) [[D.v (Value.int IntKind.i64 (2)), D.v (Value.int IntKind.i64 (0)), D.v (Value.int IntKind.i64 (0)), D.v (Value.int IntKind.i64 (1))], [D.v (Value.int IntKind.i64 (3)), D.v (Value.int IntKind.i64 (0)), D.v (Value.int IntKind.i64 (1)), D.v (Value.int IntKind.i64 (0))]] [], D.v (Value.int IntKind.i64 (0)), D.v (Value.int IntKind.i64 (0)), D.v (Value.int IntKind.i64 (0)), D.v (Value.int IntKind.i64 (0)), D.v (Value.int IntKind.i64 (0)), D.v (Value.int IntKind.i64 (0)), D.s (1) (3) [] [], D.s (1) (3) [] [], D.v (Value.int IntKind.i64 (0)), D.v (Value.int IntKind.i64 (0)), D.v (Value.int IntKind.i64 (0)), D.v (Value.int IntKind.i64 (0)), D.v (Value.int IntKind.i64 (0))]] [], D.s (1) (4) [[D.v (Value.int IntKind.i64 (3)), D.v (Value.int IntKind.i64 (0)), D.v (Value.int IntKind.i64 (0)), D.v (Value.int IntKind.i64 (5))]] []])) := by kernel_rfl
theorem Zrn : CT Tryz.prog 43 [I 0, I 2] (.agg (macL 1 bH2 [bA2, bB])) := by
  refine ct_m .nil .nil (.cons ZpW (.cons Ztk .nil)) mixed Tryz.func43 rfl rfl rfl ?_
  rw [Zro]
  exact ⟨by repeat (first | exact rfl | refine ⟨rfl, ?_⟩)⟩
end

section
open Go Go.Proofs
theorem eSS (s s' : SesD) (K : DV → Prop) : (askW Tryz.prog (hkF [(77, Zfc), (42, Ze1), (45, Zdm)] [] []) Tryz.f32 [.agg (sesL 0 s), .agg (sesL 0 s')] K) = (bif s.id == s'.id then bif s.lb == s'.lb then bif s.cl == s'.cl then bif okZ (4) s.pg && okZ (4) s'.pg then bif decide (toZ s.pg = toZ s'.pg) then bif s.st == s'.st then bif s.pc == s'.pc then bif eqI [s.r0, s.r1, s.r2, s.r3] [s'.r0, s'.r1, s'.r2, s'.r3] then bif okZ (3) s.rd && okZ (3) s'.rd then bif decide (toZ s.rd = toZ s'.rd) then bif okZ (3) s.wt && okZ (3) s'.wt then bif decide (toZ s.wt = toZ s'.wt) then bif s.at' == s'.at' then bif s.sp == s'.sp then bif s.tr == s'.tr then bif s.rs == s'.rs then K (B (s.to == s'.to)) else K (B false) else K (B false) else K (B false) else K (B false) else K (B false) else False else K (B false) else False else K (B false) else K (B false) else K (B false) else K (B false) else False else K (B false) else K (B false) else K (B false)) := by kernel_rfl
def ZlT (s s' : SesD) : Bool := bif s.id == s'.id then bif s.lb == s'.lb then bif s.cl == s'.cl then bif decide (toZ s.pg = toZ s'.pg) then bif s.st == s'.st then bif s.pc == s'.pc then bif eqI [s.r0, s.r1, s.r2, s.r3] [s'.r0, s'.r1, s'.r2, s'.r3] then bif decide (toZ s.rd = toZ s'.rd) then bif decide (toZ s.wt = toZ s'.wt) then bif s.at' == s'.at' then bif s.sp == s'.sp then bif s.tr == s'.tr then bif s.rs == s'.rs then s.to == s'.to else false else false else false else false else false else false else false else false else false else false else false else false else false
theorem cSS (s s' : SesD) (h : ZaD s = true) (h' : ZaD s' = true) : CT Tryz.prog 32 [.agg (sesL 0 s), .agg (sesL 0 s')] (B (ZlT s s')) := by
  refine ZoB (.cons Zn4 (.cons ZnC (.cons ZgN .nil))) .nil .nil mixed Tryz.func32 rfl rfl rfl ?_
  rw [eSS]
  refine ⟨?_⟩
  obtain ⟨a1, a2, a3⟩ := ZaV h
  obtain ⟨b1, b2, b3⟩ := ZaV h'
  simp only [a1, a2, a3, b1, b2, b3, Bool.and_self, cond_true, ZvU]
  exact AL.refl _
theorem eqI4 {a b c d a' b' c' d' : Int} : eqI [a, b, c, d] [a', b', c', d'] = true ↔ a = a' ∧ b = b' ∧ c = c' ∧ d = d' := by
  simp only [eqI, Bool.and_eq_true, beq_iff_eq, and_true]
theorem ZpC {p q : Bool} : (bif p then q else false) = true ↔ p = true ∧ q = true := by cases p <;> simp
theorem ZdS {z : Nat} {R S : List (List D)} (h : okZ z R = true) (h' : okZ z S = true) (e : toZ R = toZ S) : R = S := by
  rw [(Zah h).1, (Zah h').1, e]
theorem ZmU {s s' : SesD} (h : ZaD s = true) (h' : ZaD s' = true) : ZlT s s' = true ↔ s = s' := by
  obtain ⟨a1, a2, a3⟩ := ZaV h
  obtain ⟨b1, b2, b3⟩ := ZaV h'
  unfold ZlT
  simp only [ZpC, eqI4, beq_iff_eq, decide_eq_true_eq]
  constructor
  · rintro ⟨e0, e1, e2, e3, e4, e5, ⟨e6, e7, e8, e9⟩, e10, e11, e12, e13, e14, e15, e16⟩
    have e3 := ZdS a1 b1 e3
    have e10 := ZdS a2 b2 e10
    have e11 := ZdS a3 b3 e11
    cases s; cases s'
    simp only at *
    subst e0 e1 e2 e3 e4 e5 e6 e7 e8 e9 e10 e11 e12 e13 e14 e15 e16
    rfl
  · rintro rfl; simp
def sSS : Spec := fun ds Q => match ds with
  | [d, e] => sesA d fun s => sesA e fun s' => cond (ZaD s && ZaD s') (Q (B (ZlT s s'))) False
  | _ => False
theorem oSS : Zad Tryz.prog 32 sSS := o_al Tryz.func32 (by kernel_rfl) rfl fun ds Q h => by
  unfold sSS at h; split at h
  · obtain ⟨s, h, r1⟩ := ZbQ h
    obtain ⟨s', h, r2⟩ := ZbQ h
    obtain ⟨h1, h2⟩ := Zag h
    rw [Bool.and_eq_true] at h1
    exact ⟨_, _, .cons r1 (.cons r2 .nil), cSS s s' h1.1 h1.2, rfl, rfl, h2⟩
  · exact h.elim
theorem eSA (R0 R1 R2 R3 S0 S1 S2 S3 : List (List D)) (K : DV → Prop) : (askW Tryz.prog (hkF [(88, Zfe)] [] []) Tryz.f41 [.agg (wsL R0 R1 R2 R3), .agg (wsL S0 S1 S2 S3)] K) = (bif okZ (3) R0 && okZ (3) S0 then bif !decide (toZ R0 = toZ S0) then K (B false) else bif okZ (3) R1 && okZ (3) S1 then bif !decide (toZ R1 = toZ S1) then K (B false) else bif okZ (3) R2 && okZ (3) S2 then bif !decide (toZ R2 = toZ S2) then K (B false) else bif okZ (3) R3 && okZ (3) S3 then bif !decide (toZ R3 = toZ S3) then K (B false) else K (B true) else False else False else False else False) := by kernel_rfl
def Zlu (R0 R1 R2 R3 S0 S1 S2 S3 : List (List D)) : Bool := bif decide (toZ R0 = toZ S0) then bif decide (toZ R1 = toZ S1) then bif decide (toZ R2 = toZ S2) then bif decide (toZ R3 = toZ S3) then true else false else false else false else false
theorem cSA (R0 R1 R2 R3 S0 S1 S2 S3 : List (List D)) (h : okA R0 R1 R2 R3 = true) (h' : okA S0 S1 S2 S3 = true) : CT Tryz.prog 41 [.agg (wsL R0 R1 R2 R3), .agg (wsL S0 S1 S2 S3)] (B (Zlu R0 R1 R2 R3 S0 S1 S2 S3)) := by
  refine ZoB (.cons ZnG .nil) .nil .nil mixed Tryz.func41 rfl rfl rfl ?_
  rw [eSA]
  refine ⟨?_⟩
  obtain ⟨a0, a1, a2, a3⟩ := Zb2 h
  obtain ⟨b0, b1, b2, b3⟩ := Zb2 h'
  simp only [a0, a1, a2, a3, b0, b1, b2, b3, Bool.and_self, cond_true, ZtV]
  exact AL.refl _
theorem ZqX {R0 R1 R2 R3 S0 S1 S2 S3 : List (List D)} (h : okA R0 R1 R2 R3 = true) (h' : okA S0 S1 S2 S3 = true) : Zlu R0 R1 R2 R3 S0 S1 S2 S3 = true ↔ R0 = S0 ∧ R1 = S1 ∧ R2 = S2 ∧ R3 = S3 := by
  obtain ⟨a0, a1, a2, a3⟩ := Zb2 h
  obtain ⟨b0, b1, b2, b3⟩ := Zb2 h'
  unfold Zlu
  simp only [ZpC, decide_eq_true_eq]
  constructor
  · rintro ⟨e0, e1, e2, e3, _⟩
    exact ⟨ZdS a0 b0 e0, ZdS a1 b1 e1, ZdS a2 b2 e2, ZdS a3 b3 e3⟩
  · rintro ⟨rfl, rfl, rfl, rfl⟩; simp
def sSA : Spec := fun ds Q => match ds with
  | [.agg cs, .agg es] => cond (Zll cs && Nat.beq cs.length 4 && (Zll es && Nat.beq es.length 4)) (Zhv cs fun R0 R1 R2 R3 => Zhv es fun S0 S1 S2 S3 => cond (okA R0 R1 R2 R3 && okA S0 S1 S2 S3) (Q (B (Zlu R0 R1 R2 R3 S0 S1 S2 S3))) False) False
  | _ => False
theorem oSA : Zad Tryz.prog 41 sSA := o_al Tryz.func41 (by kernel_rfl) rfl fun ds Q h => by
  unfold sSA at h; split at h
  · obtain ⟨h0, h⟩ := Zag h
    simp only [Bool.and_eq_true] at h0
    obtain ⟨R0, R1, R2, R3, h, r1⟩ := Zc0 h
    obtain ⟨S0, S1, S2, S3, h, r2⟩ := Zc0 h
    obtain ⟨h1, h2⟩ := Zag h
    rw [Bool.and_eq_true] at h1
    rw [List.take_of_length_le (Nat.le_of_eq (Zab h0.1.2))] at r1
    rw [List.take_of_length_le (Nat.le_of_eq (Zab h0.2.2))] at r2
    exact ⟨_, _, .cons (.agg r1 h0.1.1 rfl) (.cons (.agg r2 h0.2.1 rfl) .nil), cSA R0 R1 R2 R3 S0 S1 S2 S3 h1.1 h1.2, rfl, rfl, h2⟩
  · exact h.elim
def stSM (h : Mh) (ss : List SesD) (h' : Mh) (ss' : List SesD) (v : Bool) (i : Int) : X := ⟨mkT 62 [(2, .c (.rp 3 0 11 0 0)), (3, .c (.rp 4 0 11 0 0)), (4, ab v), (5, ai i)], [(3, .bx 0 11 ((macL 0 h ss).map C.d)), (4, .bx 0 11 ((macL 0 h' ss').map C.d))], [], []⟩
def Zh7 (h : Mh) (ss : List SesD) (h' : Mh) (ss' : List SesD) : Vw := fun y K => wB y 4 fun v => wI y 5 fun i => K (stSM h ss h' ss' v i)
theorem ZjP (h : Mh) (ss : List SesD) (h' : Mh) (ss' : List SesD) : VwOK (Zh7 h ss h' ss') := fun y K h => by
  unfold Zh7 at h
  obtain ⟨v, h⟩ := Zdx h
  obtain ⟨i, h⟩ := Zcc h
  exact ⟨_, h⟩
theorem rSM (h : Mh) (ss : List SesD) (h' : Mh) (ss' : List SesD) (v : Bool) (i : Int) (N : X → Prop) (E : Exit → X → Prop) : (ZcR Tryz.prog (hkF [(32, sSS)] [] []) Tryz.f24 0 [] [2, 3, 4, 5] [3, 4] (Zh7 h ss h' ss') (fun _ => Zh7 h ss h' ss') N E (stSM h ss h' ss' v i)) = (bif decide (i < @Nat.cast Int _ (List.length (List.map (sesL (0)) ss))) then bif decide (0 ≤ i) && decide (i < @Nat.cast Int _ (List.length (List.map (sesL (0)) ss))) then ∃ s, ZcU (List.map (sesL (0)) ss) (Int.toNat i) (0) s ∧ bif decide (0 ≤ i) && decide (i < @Nat.cast Int _ (List.length (List.map (sesL (0)) ss'))) then ∃ s_1, ZcU (List.map (sesL (0)) ss') (Int.toNat i) (0) s_1 ∧ bif ZaD s && ZaD s_1 then bif !ZlT s s_1 then stSM h ss h' ss' false i = stSM h ss h' ss' false i ∧ E Exit.ret (stSM h ss h' ss' false i) else stSM h ss h' ss' v (IntKind.wrap IntKind.i64 (i + 1)) = stSM h ss h' ss' v (IntKind.wrap IntKind.i64 (i + 1)) ∧ N (stSM h ss h' ss' v (IntKind.wrap IntKind.i64 (i + 1))) else False else False else False else stSM h ss h' ss' v i = stSM h ss h' ss' v i ∧ E (Exit.exit (0)) (stSM h ss h' ss' v i)) := by kernel_rfl
def sesN (ss : List SesD) (i : Nat) : SesD := ss.getD i default
def unl (ss ss' : List SesD) (i : Nat) : Bool := !ZlT (sesN ss i) (sesN ss' i)
def fSM (h : Mh) (ss : List SesD) (h' : Mh) (ss' : List SesD) : LSum := fun Q x => ss.length = ss'.length ∧ Zdv [2, 3, 4, 5] [3, 4] (fun i => stSM h ss h' ss' false i) (fun i => stSM h ss h' ss' false i) ss.length (unl ss ss') .ret (.exit 0) Q x
theorem eSM (h : Mh) (ss : List SesD) (h' : Mh) (ss' : List SesD) (K : DV → Prop) : (askW Tryz.prog (hkFL [(41, sSA), (59, Zel)] [] [] [(4, fSM h ss h' ss')]) Tryz.f24 [.agg (macL 0 h ss), .agg (macL 0 h' ss')] K) = (bif okA h.w0 h.w1 h.w2 h.w3 && okA h'.w0 h'.w1 h'.w2 h'.w3 then bif !Zlu h.w0 h.w1 h.w2 h.w3 h'.w0 h'.w1 h'.w2 h'.w3 then K (B false) else bif !eqI [h.c0, h.c1, h.c2, h.c3] [h'.c0, h'.c1, h'.c2, h'.c3] then K (B false) else bif h.ce != h'.ce then K (B false) else bif @Nat.cast Int _ (List.length (List.map (sesL (0)) ss)) != @Nat.cast Int _ (List.length (List.map (sesL (0)) ss')) then K (B false) else bif okZ (4) h.tr && okZ (4) h'.tr then bif !decide (toZ h.tr = toZ h'.tr) then K (B false) else List.length ss = List.length ss' ∧ stSM h ss h' ss' false (0) = stSM h ss h' ss' false (0) ∧ (∀ (i : Nat), firstAt (unl ss ss') (List.length ss) i → K (B false)) ∧ (noneTo (unl ss ss') (List.length ss) → K (B true)) else False else False) := by kernel_rfl
theorem Zk5 {ss : List SesD} {i t : Nat} (h : i < ss.length) : ZcU (List.map (sesL t) ss) i t (sesN ss i) := ZeK (by unfold sesN; rw [List.getD_eq_getElem?_getD, List.getElem?_eq_getElem h]; rfl)
theorem Zdf {ss : List SesD} {i : Nat} (h : i < ss.length) : sesN ss i ∈ ss := by
  unfold sesN
  rw [List.getD_eq_getElem?_getD, List.getElem?_eq_getElem h]
  exact List.getElem_mem h
theorem kSM {h : Mh} {ss : List SesD} {h' : Mh} {ss' : List SesD} (hs : okSS ss = true) (hs' : okSS ss' = true) (hn : ss.length ≤ 9223372036854775806) (Q : Exit → X → Prop) (x : X) (hq : fSM h ss h' ss' Q x) : XWP Tryz.prog (.loop (Zar Tryz.f24 0)) Q x := by
  obtain ⟨hl, hq⟩ := hq
  have q1 := List.all_eq_true.1 hs
  have q2 := List.all_eq_true.1 hs'
  refine Zcm (sw := []) (V := Zh7 h ss h' ss') (VE := fun _ => Zh7 h ss h' ss') mixed (ZjP h ss h' ss') (fun _ => ZjP h ss h' ss') _ _ _ _ _ _ (fun i hi => ⟨hkF [(32, sSS)] [] [], Zhb (.cons oSS .nil) .nil .nil, Zai rfl, fun N E h1 h2 => ?_⟩) ⟨hkF [(32, sSS)] [] [], Zhb (.cons oSS .nil) .nil .nil, Zai rfl, fun N E h1 => ?_⟩ Q x hq
  · rw [rSM]
    have wi : IntKind.wrap IntKind.i64 ((i : Int) + 1) = ((i + 1 : Nat) : Int) := Zan (n := 1) (by omega)
    have hi' : i < ss'.length := by omega
    simp only [List.length_map, Int.ofNat_lt, hi, hi', decide_true, cond_true, Int.natCast_nonneg, Bool.and_self, Int.toNat_natCast, wi]
    refine ⟨sesN ss i, Zk5 hi, sesN ss' i, Zk5 hi', ?_⟩
    rw [q1 _ (Zdf hi), q2 _ (Zdf hi')]
    unfold unl at h1 h2
    generalize ZlT (sesN ss i) (sesN ss' i) = u at h1 h2 ⊢
    cases u
    · exact ⟨trivial, h1 rfl⟩
    · exact ⟨trivial, h2 rfl⟩
  · rw [rSM]
    simp only [List.length_map, Int.ofNat_lt, Nat.lt_irrefl, decide_false, cond_false, true_and]
    exact h1
def ZqI (h : Mh) (ss : List SesD) (h' : Mh) (ss' : List SesD) : Bool := Zlu h.w0 h.w1 h.w2 h.w3 h'.w0 h'.w1 h'.w2 h'.w3 && (eqI [h.c0, h.c1, h.c2, h.c3] [h'.c0, h'.c1, h'.c2, h'.c3] && (h.ce == h'.ce && (decide (ss.length = ss'.length) && (decide (toZ h.tr = toZ h'.tr) && !(List.range ss.length).any (unl ss ss')))))
theorem Zre {ss ss' : List SesD} (hl : ss.length = ss'.length) (h : ∀ i, i < ss.length → sesN ss i = sesN ss' i) : ss = ss' := by
  apply List.ext_getElem hl
  intro i h1 h2
  have := h i h1
  unfold sesN at this
  rwa [List.getD_eq_getElem?_getD, List.getD_eq_getElem?_getD, List.getElem?_eq_getElem h1, List.getElem?_eq_getElem h2] at this
theorem ZqC {h : Mh} {ss : List SesD} {h' : Mh} {ss' : List SesD} (ho : okM h ss = true) (ho' : okM h' ss' = true) : ZqI h ss h' ss' = true ↔ h = h' ∧ ss = ss' := by
  obtain ⟨a1, a2, a3⟩ := ZbP ho
  obtain ⟨b1, b2, b3⟩ := ZbP ho'
  have q1 := List.all_eq_true.1 a3
  have q2 := List.all_eq_true.1 b3
  unfold ZqI
  simp only [Bool.and_eq_true, ZqX a1 b1, eqI4, beq_iff_eq, decide_eq_true_eq, Bool.not_eq_true', List.any_eq_false, List.mem_range]
  constructor
  · rintro ⟨⟨e0, e1, e2, e3⟩, ⟨e4, e5, e6, e7⟩, e8, e9, e10, e11⟩
    have e10 := ZdS a2 b2 e10
    refine ⟨?_, Zre e9 fun i hi => ?_⟩
    · cases h; cases h'
      simp only at *
      subst e0 e1 e2 e3 e4 e5 e6 e7 e8 e10
      rfl
    · have := e11 i hi
      unfold unl at this
      simp only [Bool.not_eq_true, Bool.not_eq_false'] at this
      exact (ZmU (q1 _ (Zdf hi)) (q2 _ (Zdf (by omega)))).1 (by simpa using this)
  · rintro ⟨rfl, rfl⟩
    refine ⟨⟨rfl, rfl, rfl, rfl⟩, ⟨rfl, rfl, rfl, rfl⟩, rfl, rfl, rfl, fun i hi => ?_⟩
    unfold unl
    rw [(ZmU (q1 _ (Zdf hi)) (q1 _ (Zdf hi))).2 rfl]; simp
theorem cSM (h : Mh) (ss : List SesD) (h' : Mh) (ss' : List SesD) (ho : okM h ss = true) (ho' : okM h' ss' = true) (hn : ss.length ≤ 9223372036854775806) : CT Tryz.prog 24 [.agg (macL 0 h ss), .agg (macL 0 h' ss')] (B (ZqI h ss h' ss')) := by
  obtain ⟨a1, a2, a3⟩ := ZbP ho
  obtain ⟨b1, b2, b3⟩ := ZbP ho'
  refine Zvt (m := [(4, fSM h ss h' ss')]) (.cons oSA (.cons ZkQ .nil)) .nil .nil mixed (ZpB (i := 0) (fun j hj _ => by have : j < 1 := hj; omega) (kSM a3 b3 hn)) Tryz.func24 rfl rfl rfl ?_
  rw [eSM]
  refine ⟨?_⟩
  unfold ZqI
  simp only [a1, a2, b1, b2, Bool.and_self, cond_true, List.length_map]
  cases Zlu h.w0 h.w1 h.w2 h.w3 h'.w0 h'.w1 h'.w2 h'.w3
  · exact AL.refl _
  · cases eqI [h.c0, h.c1, h.c2, h.c3] [h'.c0, h'.c1, h'.c2, h'.c3]
    · exact AL.refl _
    · cases hc : h.ce == h'.ce
      · have : (h.ce != h'.ce) = true := by unfold bne; rw [hc]; rfl
        rw [this]; exact AL.refl _
      · have : (h.ce != h'.ce) = false := by unfold bne; rw [hc]; rfl
        rw [this]
        by_cases hl : ss.length = ss'.length
        · have : (@Nat.cast Int _ (List.length ss) != @Nat.cast Int _ (List.length ss')) = false := by rw [hl]; simp
          rw [this, decide_eq_true hl]
          cases decide (toZ h.tr = toZ h'.tr)
          · exact AL.refl _
          · refine ⟨hl, trivial, fun i hi => ?_, fun hn => ?_⟩
            · rw [hi.b]; exact AL.refl _
            · rw [hn.b]; exact AL.refl _
        · have : (@Nat.cast Int _ (List.length ss) != @Nat.cast Int _ (List.length ss')) = true := by simp; omega
          rw [this, decide_eq_false hl]; exact AL.refl _
end

section
open Go Go.Proofs
def Zvg (k : Int) (h : Mh) (s : SesD) : Inl := Zfn Tryz.prog [3, 3] (sF (sAtD [I 0, I k] (.agg (macL 1 h [s, bB]))))
end

section
open Go Go.Proofs
theorem Zo5 {h : Mh} {ss : List SesD} (hm : smM h ss = true) (j : Nat) {s : SesD} (hs : smS s = true) : smM h (ss.set j s) = true := by
  unfold smM at hm ⊢
  simp only [Bool.and_eq_true] at hm ⊢
  refine ⟨hm.1, hm.2.1, ?_⟩
  rw [List.all_eq_true] at hm ⊢
  intro x hx
  rcases List.mem_or_eq_of_mem_set hx with hx | rfl
  · exact hm.2.2 x hx
  · exact hs
theorem ZrG {h h' : Mh} {ss : List SesD} (hm : smM h ss = true) (e0 : h'.w0 = h.w0) (e1 : h'.w1 = h.w1) (e2 : h'.w2 = h.w2) (e3 : h'.w3 = h.w3) (ht : smR 4398046510977 h'.tr = true) : smM h' ss = true := by
  unfold smM at hm ⊢
  rw [e0, e1, e2, e3, ht]
  simp only [Bool.and_eq_true] at hm ⊢
  exact ⟨hm.1, trivial, hm.2.2⟩
end

section
open Go Go.Proofs
theorem Zsb {R0 R1 R2 R3 : List (List D)} {s : SesD} (h : Zam R0 R1 R2 R3 s = true) : ZbE (toZ s.wt) = true := by
  unfold Zam Zj4 at h
  simp only [Bool.and_eq_true] at h
  exact h.2.1.2.1
theorem ZkE (l : List (List Int)) (r : List Int) : (Zaj l r).length ≤ l.length + 1 := by
  unfold Zaj
  cases ZbE l && okw r
  · simp
  · simp only [cond_true]
    unfold putW
    cases hasW l (key r) <;> simp <;> omega
theorem Zkm {s : SesD} (hs : smS s = true) (hw : s.wt.length ≤ 16) : smS (Zcr s) = true := by
  obtain ⟨h1, h2, h3⟩ := ZaK hs
  unfold smS
  show (smR 4398046510977 s.pg && (smR 5864062014635 s.rd && smR 5864062014635 (mZ (Zaj (toZ s.wt) [iB s, iD s, Zhd s (iA s)])))) = true
  have hl := ZkE (toZ s.wt) [iB s, iD s, Zhd s (iA s)]
  rw [Zal] at hl
  rw [h1, h2]
  unfold smR
  rw [ZdF, Zaf, decide_eq_true (by omega)]; rfl
theorem ZmD {h : Mh} (ht : smR 4398046510977 h.tr = true) (hl : h.tr.length ≤ 512) (a b k v : Int) : smR 4398046510977 (Zkw h a b k v).tr = true := by
  unfold Zkw
  cases decide ((h.tr.length : Int) < 512)
  · exact ht
  · unfold smR
    show (allV (h.tr ++ [[vN a, vN b, vN k, vN v]]) && decide ((h.tr ++ [[vN a, vN b, vN k, vN v]]).length ≤ 4398046510977)) = true
    rw [ZqR (Zac ht).1 rfl, List.length_append, decide_eq_true (by simp; omega)]; rfl
theorem Foc.smS {h : Mh} {ss : List SesD} {i : Int} {s : SesD} (f : Foc h ss i s) : Vm.smS s = true :=
  List.all_eq_true.1 (by have := f.sm; unfold smM at this; simp only [Bool.and_eq_true] at this; exact this.2.2) s (List.mem_of_getElem? f.at')
theorem Foc.wtl {h : Mh} {ss : List SesD} {i : Int} {s : SesD} (f : Foc h ss i s) : s.wt.length ≤ 16 := by
  have := Zi8 (Zsb f.may)
  rwa [Zal] at this
theorem Foc.smtr {h : Mh} {ss : List SesD} {i : Int} {s : SesD} (f : Foc h ss i s) : smR 4398046510977 h.tr = true := (Zc5 f.sm).2.1
theorem ZjO (h : Mh) (s : SesD) : (ZbO h s).w0 = h.w0 ∧ (ZbO h s).w1 = h.w1 ∧ (ZbO h s).w2 = h.w2 ∧ (ZbO h s).w3 = h.w3 := by
  unfold ZbO Zkw
  first | exact ⟨rfl, rfl, rfl, rfl⟩ | (split <;> exact ⟨rfl, rfl, rfl, rfl⟩) | (cases decide ((h.tr.length : Int) < 512) <;> exact ⟨rfl, rfl, rfl, rfl⟩)
def sSto : Spec := fun ds Q => match ds with
  | [d, e] => macA d fun h ss => inA e fun i => cond (okM h ss) (bif mAt (has1 3) h ss i then Q (macR (ZbO h (ss.getD i.toNat default)) (ss.set i.toNat (Zcr (ss.getD i.toNat default))) 0) else Q (macE 1600)) False
  | _ => False
theorem oSto : Zad Tryz.prog 38 sSto := o_al Tryz.func38 (by kernel_rfl) rfl fun ds Q hq => by
  unfold sSto at hq; split at hq
  · obtain ⟨h, ss, hq, r1⟩ := ZcK hq
    obtain ⟨i, hq, rfl⟩ := ZmV hq
    obtain ⟨ho, hq⟩ := Zag hq
    have hct := cSto h ss i ho
    cases hm : mAt (has1 3) h ss i with
    | false =>
      rw [hm] at hq hct
      exact ⟨_, _, .cons r1 (.cons (.refl _) .nil), hct, rfl, rfl, hq⟩
    | true =>
      rw [hm] at hq hct
      obtain ⟨s, f, _⟩ := Zi0 ho hm
      refine ⟨_, macR (ZbO h (ss.getD i.toNat default)) (ss.set i.toNat (Zcr (ss.getD i.toNat default))) 0, .cons r1 (.cons (.refl _) .nil), hct, ZiE (h := ZbO h (ss.getD i.toNat default)) (Zo5 (ZrG (h' := ZbO h (ss.getD i.toNat default)) f.sm (ZjO _ _).1 (ZjO _ _).2.1 (ZjO _ _).2.2.1 (ZjO _ _).2.2.2 ?_) _ ?_) 0, rfl, hq⟩
      · rw [f.getD]; exact ZmD f.smtr f.tl _ _ _ _
      · rw [f.getD]; exact Zkm f.smS f.wtl
  · exact hq.elim
def iSto : Inl := Zfn Tryz.prog [34, 3] (sF sSto)
theorem Zsp : Zbl Tryz.prog 38 iSto := Zd3 (oF oSto)
theorem Zls : Zbl Tryz.prog 43 (Zvg 2 bH2 bA2) := Zd3 (oF (oAtD (Zat Tryz.func43 (by kernel_rfl) rfl) Zrn rfl rfl))
theorem ZuA : Zad Tryz.prog 44 (sAtD [] (.agg (macL 1 bH0 [bA0, bB]))) := oAtD (Zat Tryz.func44 (by kernel_rfl) rfl) ZrH rfl rfl
theorem Zws (K : DV → Prop) : (askH Tryz.prog (hkM [(25, sI), (45, Zdm), (41, sSA), (44, sAtD [] (.agg (macL 1 bH0 [bA0, bB])))] [] [(38, iSto), (43, Zvg 2 bH2 bA2)]) Tryz.f40 [] K) = ([I (0), I (2)] = [I (0), I (2)] ∧ ([] : List DV) = [] ∧ ([] : List DV) = [] ∧ K (B true)) := by kernel_rfl
theorem ZwW : CT Tryz.prog 40 [] (B true) := by
  refine ct_m (.cons oNum (.cons ZgN (.cons oSA (.cons ZuA .nil)))) .nil (.cons Zsp (.cons Zls .nil)) mixed Tryz.func40 rfl rfl rfl ?_
  rw [Zws]
  exact ⟨by repeat (first | exact rfl | refine ⟨rfl, ?_⟩)⟩
theorem ZwG : Zad Tryz.prog 40 (sAtD [] (B true)) := oAtD (Zat Tryz.func40 (by kernel_rfl) rfl) ZwW rfl rfl
end

section
open Go Go.Proofs
theorem OD.frz {w : World} {G : Nat → Prop} {v : Value} {S G' S' : Nat → Prop} {d e : D} (h : RD d e) (he : e.isOwn = false) (hg : ∀ b, G b → G' b) (hs : ∀ b, S b → G' b) (hv : OD w G v d S) : OD w G' v e S' := by
  refine .r _ _ _ (fun z rows sp q => ?_) (h _ _ _ (hv.read hg hs))
  subst q; cases he
theorem ZwQ {d e : D} (h : RD d e) (he : e.isOwn = false) : Frz (.c d) (.c e) := fun w G v S hv => by
  cases hv with
  | c _ _ _ hx => exact .c _ _ _ (hx.frz h he (fun _ => .inl) (fun _ => .inr))
theorem Zp8 {cs cs' : List D} (h : All2 RD cs cs') (he : cs'.all (fun d => !d.isOwn) = true) : Frz (.agg cs) (.agg cs') := fun w G v S hv => by
  cases hv with
  | agg vs _ _ sub h1 h2 h3 h4 =>
    refine .agg vs cs' _ (fun _ _ => False) (by rw [← h.len]; exact h1) (fun i e hi => ?_) (fun _ _ q => q) (fun _ _ _ q => q.elim)
    obtain ⟨d, g1, g2⟩ := h.get hi
    have a2 := List.all_eq_true.1 he e (List.mem_of_getElem? hi)
    exact (h2 i d g1).frz g2 (by simpa using a2) (fun _ => .inl) (fun b hb => .inr (h3 i b hb))
theorem Ztc {xs ys : List DV} (h : All2 Frz xs ys) : Frz (.tup xs) (.tup ys) := fun w G v S hv => by
  cases hv with
  | tup vs _ _ sub h1 h2 h3 h4 =>
    refine .tup vs ys _ (fun _ _ => False) (by rw [← h.len]; exact h1) (fun i e hi => ?_) (fun _ _ q => q) (fun _ _ _ q => q.elim)
    obtain ⟨d, g1, g2⟩ := h.get hi
    exact (g2 _ _ _ _ (h2 i d g1)).mono (fun b hb => hb.elim .inl fun q => .inr (h3 i b q)) (.refl _ _) (.refl _ _)
theorem Zvh {t t' : Nat} (s : SesD) : All2 RD (sesL t s) (sesL t' s) :=
  .cons (.refl _) (.cons (.refl _) (.cons (.refl _) (.cons .slice (.cons (.refl _) (.cons (.refl _) (.cons (.refl _) (.cons (.refl _) (.cons (.refl _) (.cons (.refl _) (.cons .slice (.cons .slice (.cons (.refl _) (.cons (.refl _) (.cons (.refl _) (.cons (.refl _) (.cons (.refl _) .nil))))))))))))))))
theorem ZrI {t t' : Nat} : ∀ ss : List SesD, All2 (All2 RD) (ss.map (sesL t)) (ss.map (sesL t'))
  | [] => .nil
  | s :: ss => .cons (Zvh s) (ZrI ss)
theorem Zr0 {t t' : Nat} (h : Mh) (ss : List SesD) : All2 RD (macL t h ss) (macL t' h ss) :=
  .cons .slice (.cons .slice (.cons .slice (.cons .slice (.cons (.refl _) (.cons (.refl _) (.cons (.refl _) (.cons (.refl _) (.cons (.refl _) (.cons (.rows (ZrI ss)) (.cons .slice .nil))))))))))
def macZ (h : Mh) (ss : List SesD) (e : Int) : DV := .tup [.agg (macL 0 h ss), I e]
theorem Zra (h : Mh) (ss : List SesD) (e : Int) : Frz (macR h ss e) (macZ h ss e) := Ztc (.cons (Zp8 (Zr0 h ss) rfl) (.cons (ZwQ (.refl _) rfl) .nil))
theorem ZwU : Goes Tryz.prog 19 := Zat Tryz.func19 (by kernel_rfl) rfl
end

section
open Go Go.Proofs
def kSes : List KT := [.int, .int, .int, .sl (List.replicate 4 .int) 32, .int, .int, .int, .int, .int, .int, .sl (List.replicate 3 .int) 24, .sl (List.replicate 3 .int) 24, .int, .int, .int, .int, .int]
def kMac : List KT := [.sl (List.replicate 3 .int) 24, .sl (List.replicate 3 .int) 24, .sl (List.replicate 3 .int) 24, .sl (List.replicate 3 .int) 24, .int, .int, .int, .int, .int, .sl kSes 184, .sl (List.replicate 4 .int) 32]
theorem GoodL.i {cs : List KT} {ds : List D} (h : GoodL (.int :: cs) ds) : ∃ n ds', ds = vN n :: ds' ∧ GoodL cs ds' := by
  obtain ⟨d, ds', rfl, h1, h2⟩ := h.cons_inv
  obtain ⟨n, rfl, _⟩ := h1.int_inv
  exact ⟨n, ds', rfl, h2⟩
end

section
open Go Go.Proofs
theorem Zrl {l : List (List Int)} {a b c : Int} (hw : wid 3 l) : wid 3 (Zaj l [a, b, c]) := by
  unfold Zaj
  cases ZbE l && okw [a, b, c]
  · intro r hr; cases hr
  · intro r hr
    simp only [cond_true] at hr
    unfold putW at hr
    rcases List.mem_append.1 hr with q | q
    · exact hw r (List.mem_of_mem_take q)
    · rcases List.mem_cons.1 q with rfl | q
      · rfl
      · exact hw r (List.mem_of_mem_drop q)
theorem Zw1 {s : SesD} (hs : ZaD s = true) (hl : s.wt.length ≤ 16) : okZ 3 (Zcr s).wt = true := by
  show okZ 3 (mZ (Zaj (toZ s.wt) [iB s, iD s, Zhd s (iA s)])) = true
  refine ZjZ (Zrl (Zah (ZaV hs).2.2).2.1) ?_
  have := ZkE (toZ s.wt) [iB s, iD s, Zhd s (iA s)]
  rw [Zal] at this
  omega
theorem Zui {s : SesD} (hs : ZaD s = true) (hl : s.wt.length ≤ 16) : ZaD (Zcr s) = true := by
  unfold ZaD
  rw [show (Zcr s).pg = s.pg from rfl, show (Zcr s).rd = s.rd from rfl, (ZaV hs).1, (ZaV hs).2.1, Zw1 hs hl]; rfl
theorem Zqd {ss : List SesD} {s : SesD} {j : Nat} (h : okSS ss = true) (hs : ZaD s = true) : okSS (ss.set j s) = true := by
  unfold okSS at *
  rw [List.all_eq_true] at *
  intro x hx
  rcases List.mem_or_eq_of_mem_set hx with q | q
  · exact h x q
  · rw [q]; exact hs
theorem gSto : Goes Tryz.prog 38 := Zat Tryz.func38 (by kernel_rfl) rfl
end

section
open Go Go.Proofs
theorem GoodL.rb {z b : Nat} {cs : List KT} {ds : List D} (h : GoodL (.sl (List.replicate z .int) b :: cs) ds) : ∃ R ds', ds = .s 0 z R [] :: ds' ∧ okZ z R = true ∧ R.length * b ≤ 140737488351232 ∧ GoodL cs ds' := by
  obtain ⟨d, ds', rfl, h1, h2⟩ := h.cons_inv
  obtain ⟨R, rfl, h3, h4⟩ := h1.rows
  exact ⟨R, ds', rfl, h3, h4, h2⟩
theorem Zwz {r : List D} (h : GoodL kSes r) : ∃ s, r = sesL 0 s ∧ ZaD s = true ∧ smS s = true := by
  unfold kSes at h
  obtain ⟨x0, r0, rfl, g0⟩ := h.i
  obtain ⟨x1, r1, rfl, g1⟩ := g0.i
  obtain ⟨x2, r2, rfl, g2⟩ := g1.i
  obtain ⟨x3, r3, rfl, o3, bo3, g3⟩ := g2.rb
  obtain ⟨x4, r4, rfl, g4⟩ := g3.i
  obtain ⟨x5, r5, rfl, g5⟩ := g4.i
  obtain ⟨x6, r6, rfl, g6⟩ := g5.i
  obtain ⟨x7, r7, rfl, g7⟩ := g6.i
  obtain ⟨x8, r8, rfl, g8⟩ := g7.i
  obtain ⟨x9, r9, rfl, g9⟩ := g8.i
  obtain ⟨x10, r10, rfl, o10, bo10, g10⟩ := g9.rb
  obtain ⟨x11, r11, rfl, o11, bo11, g11⟩ := g10.rb
  obtain ⟨x12, r12, rfl, g12⟩ := g11.i
  obtain ⟨x13, r13, rfl, g13⟩ := g12.i
  obtain ⟨x14, r14, rfl, g14⟩ := g13.i
  obtain ⟨x15, r15, rfl, g15⟩ := g14.i
  obtain ⟨x16, r16, rfl, g16⟩ := g15.i
  obtain rfl := g16.nil_inv
  refine ⟨⟨x0, x1, x2, x3, x4, x5, x6, x7, x8, x9, x10, x11, x12, x13, x14, x15, x16⟩, rfl, ?_, ?_⟩
  · show (okZ 4 x3 && (okZ 3 x10 && okZ 3 x11)) = true
    rw [o3, o10, o11]; rfl
  · show (smR 4398046510977 x3 && (smR 5864062014635 x10 && smR 5864062014635 x11)) = true
    rw [ZcO o3 (Nat.le_refl _) (by omega), ZcO o10 (Nat.le_refl _) (by omega), ZcO o11 (Nat.le_refl _) (by omega)]; rfl
theorem ZrP : ∀ rows : List (List D), (∀ r ∈ rows, GoodL kSes r) → ∃ ss : List SesD, rows = ss.map (sesL 0) ∧ okSS ss = true ∧ ss.all smS = true
  | [], _ => ⟨[], rfl, rfl, rfl⟩
  | r :: rows, h => by
    obtain ⟨s, rfl, hs, ks⟩ := Zwz (h r (by simp))
    obtain ⟨ss, rfl, hss, kss⟩ := ZrP rows fun r hr => h r (by simp [hr])
    refine ⟨s :: ss, rfl, ?_, by rw [List.all_cons, ks, kss]; rfl⟩
    unfold okSS at hss ⊢
    rw [List.all_cons, hs, hss]; rfl
theorem ZvB {r : List D} (h : GoodL kMac r) : ∃ m ss, r = macL 0 m ss ∧ okM m ss = true ∧ smM m ss = true ∧ ss.length * 184 ≤ 140737488351232 := by
  unfold kMac at h
  obtain ⟨x0, r0, rfl, o0, bo0, g0⟩ := h.rb
  obtain ⟨x1, r1, rfl, o1, bo1, g1⟩ := g0.rb
  obtain ⟨x2, r2, rfl, o2, bo2, g2⟩ := g1.rb
  obtain ⟨x3, r3, rfl, o3, bo3, g3⟩ := g2.rb
  obtain ⟨x4, r4, rfl, g4⟩ := g3.i
  obtain ⟨x5, r5, rfl, g5⟩ := g4.i
  obtain ⟨x6, r6, rfl, g6⟩ := g5.i
  obtain ⟨x7, r7, rfl, g7⟩ := g6.i
  obtain ⟨x8, r8, rfl, g8⟩ := g7.i
  obtain ⟨d, r9, rfl, h9, g9⟩ := g8.cons_inv
  obtain ⟨rows, rfl, hb, _, hr⟩ := h9.sl_inv
  obtain ⟨ss, rfl, hss, kss⟩ := ZrP rows hr
  obtain ⟨x10, r10, rfl, o10, bo10, g10⟩ := g9.rb
  obtain rfl := g10.nil_inv
  refine ⟨{ w0 := x0, w1 := x1, w2 := x2, w3 := x3, c0 := x4, c1 := x5, c2 := x6, c3 := x7, ce := x8, tr := x10 }, ss, rfl, ?_, ?_, by rwa [List.length_map] at hb⟩
  · unfold okM okA
    show (okZ 3 x0 && (okZ 3 x1 && (okZ 3 x2 && okZ 3 x3)) && (okZ 4 x10 && okSS ss)) = true
    rw [o0, o1, o2, o3, o10, hss]; rfl
  · have c : ∀ {R : List (List D)}, okZ 3 R = true → R.length * 24 ≤ 140737488351232 → okC R = true := fun {R} h1 h2 => by
      have := ZcO (n := 5864062014635) h1 (Nat.le_refl _) (by omega)
      unfold smR at this
      unfold okC
      simpa using this
    show (okC x0 && (okC x1 && (okC x2 && okC x3)) && (smR 4398046510977 x10 && ss.all smS)) = true
    rw [ZcO o10 (Nat.le_refl _) (by omega), kss, c o0 bo0, c o1 bo1, c o2 bo2, c o3 bo3]; rfl
end

section
open Go Go.Proofs
def lX (R : List (List D)) : Bool := decide (0 + List.length R ≤ List.length (R ++ []))
def cC (R : List (List D)) : List (List D) := cut (R ++ []) 0 (List.length R)
def cD (R : List (List D)) : List (List D) := cut (R ++ []) (0 + List.length R) (List.length R + 0 - List.length R)
def aX (R : List (List D)) : Bool := allV (R ++ [])
theorem lX_t (R : List (List D)) : lX R = true := by simp [lX]
theorem cC_e (R : List (List D)) : cC R = R := by unfold cC; rw [List.append_nil]; exact Zti rfl
theorem cD_e (R : List (List D)) : cD R = [] := by simp [cD, cut]
theorem kX_t {R : List (List D)} (h : allV R = true) : kX R = true := by
  unfold kX
  rw [List.append_nil, Zaq h]; simp
theorem aX_t {R : List (List D)} (h : allV R = true) : aX R = true := by unfold aX; rwa [List.append_nil]
theorem tC_e (R : List (List D)) : tC R = R := by simp [tC]
theorem tD_e (R : List (List D)) : tD R = [] := by simp [tD]
def ZqD (h : Mh) (ss : List SesD) (i : Int) (W0 W1 W2 W3 : List (List D)) : X := ⟨mkT 35 [(1, .c (.rp 2 0 11 0 0)), (2, .c (.rp 3 0 11 0 0)), (3, .c (.rp 4 0 11 0 0)), (4, ai i)], [(2, .bx 0 11 ((macL 0 h ss).map C.d)), (3, .bx 0 11 (mac0.map C.d)), (4, .bx 0 11 [.rs 9000 0 3 0 h.w0.length h.w0.length, .rs 9001 0 3 0 h.w1.length h.w1.length, .rs 9002 0 3 0 h.w2.length h.w2.length, .rs 9003 0 3 0 h.w3.length h.w3.length, ci h.c0, ci h.c1, ci h.c2, ci h.c3, ci h.ce, .d nilV, .d (.s 0 4 h.tr [])]), (9000, .sl 0 3 W0), (9001, .sl 0 3 W1), (9002, .sl 0 3 W2), (9003, .sl 0 3 W3)], [], []⟩
abbrev stC0 (h : Mh) (ss : List SesD) (i : Int) : X := ZqD h ss i h.w0 h.w1 h.w2 h.w3
def stC (h : Mh) (ss : List SesD) (i : Int) (n m : Nat) (R : List (List D)) : X := ⟨mkT 35 [(1, .c (.rp 2 0 11 0 0)), (2, .c (.rp 3 0 11 0 0)), (3, .c (.rp 4 0 11 0 0)), (4, ai i)], [(2, .bx 0 11 ((macL 0 h ss).map C.d)), (3, .bx 0 11 (mac0.map C.d)), (4, .bx 0 11 [.rs 9000 0 3 0 h.w0.length h.w0.length, .rs 9001 0 3 0 h.w1.length h.w1.length, .rs 9002 0 3 0 h.w2.length h.w2.length, .rs 9003 0 3 0 h.w3.length h.w3.length, ci h.c0, ci h.c1, ci h.c2, ci h.c3, ci h.ce, .rs 28 0 17 0 n m, .d (.s 0 4 h.tr [])]), (9000, .sl 0 3 h.w0), (9001, .sl 0 3 h.w1), (9002, .sl 0 3 h.w2), (9003, .sl 0 3 h.w3), (28, .sl 0 17 R)], [], []⟩
def wCn : Nat → List C → (C → Prop) → Prop
  | 0, r, K => wC r fun c _ => K c
  | n + 1, r, K => wC r fun _ r => wCn n r K
theorem ZrU : ∀ {n : Nat} {r : List C} {K : C → Prop}, wCn n r K → ∃ c, K c
  | 0, r, K, h => by obtain ⟨c, _, h⟩ := ZtX h; exact ⟨c, h⟩
  | n + 1, r, K, h => by obtain ⟨_, r, h⟩ := ZtX h; exact ZrU h
def Zku (h : Mh) (ss : List SesD) : Vw := fun y K => wI y 4 fun i => wR y 4 fun r => wCn 9 r fun c => cS c fun n m => wL y 28 fun R => K (stC h ss i n m R)
theorem Zm6 (h : Mh) (ss : List SesD) : VwOK (Zku h ss) := fun y K q => by
  unfold Zku at q
  obtain ⟨i, q⟩ := Zcc q
  obtain ⟨r, q⟩ := ZwD q
  obtain ⟨c, q⟩ := ZrU q
  obtain ⟨n, m, q⟩ := ZvO q
  obtain ⟨R, q⟩ := ZnW q
  exact ⟨_, q⟩
theorem rC0 (h : Mh) (ss : List SesD) (N : X → Prop) (E : Exit → X → Prop) : (ZcR Tryz.prog (hkC [(47, ZcH)] [] [] []) Tryz.f19 0 [] [1, 2, 3, 4] [2, 3, 4, 9000, 9001, 9002, 9003, 28] (Zku h ss) (fun _ => Zku h ss) N E (stC0 h ss 0)) = (bif decide (0 < @Nat.cast Int _ (List.length (List.map (sesL (0)) ss))) then bif true && decide (0 < @Nat.cast Int _ (List.length (List.map (sesL (0)) ss))) then ∃ s, ZcU (List.map (sesL (0)) ss) (0) (0) s ∧ bif smS s then foAt (0) (0) (1) ∧ whole (List.length s.pg) (s.pg ++ []) ∧ foAt (0) (0) (1) ∧ whole (List.length s.rd) (s.rd ++ []) ∧ foAt (0) (0) (1) ∧ whole (List.length s.wt) (s.wt ++ []) ∧ stC h ss (1) (1) (1) [(sesL (1) { s with pg := (s.pg ++ []), rd := (s.rd ++ []), wt := (s.wt ++ []) })] = stC h ss (1) (1) (1) [(sesL (1) { s with pg := (s.pg ++ []), rd := (s.rd ++ []), wt := (s.wt ++ []) })] ∧ N (stC h ss (1) (1) (1) [(sesL (1) { s with pg := (s.pg ++ []), rd := (s.rd ++ []), wt := (s.wt ++ []) })]) else False else False else False) := by kernel_rfl
theorem rC1 (h : Mh) (ss : List SesD) (i : Int) (n m : Nat) (R : List (List D)) (N : X → Prop) (E : Exit → X → Prop) : (ZcR Tryz.prog (hkC [(47, ZcH)] [] [] []) Tryz.f19 0 [] [1, 2, 3, 4] [2, 3, 4, 9000, 9001, 9002, 9003, 28] (Zku h ss) (fun _ => Zku h ss) N E (stC h ss i n m R)) = (bif decide (i < @Nat.cast Int _ (List.length (List.map (sesL (0)) ss))) then bif decide (0 ≤ i) && decide (i < @Nat.cast Int _ (List.length (List.map (sesL (0)) ss))) then ∃ s, ZcU (List.map (sesL (0)) ss) (Int.toNat i) (0) s ∧ bif smS s then n = List.length R ∧ bif decide ((n + 1) * 184 ≤ 140737488355328) && decide (n + 1 ≤ 9223372036854775807) then foAt n n (List.length (R ++ [[]])) ∧ whole (List.length s.pg) (s.pg ++ []) ∧ foAt n n (List.length (R ++ [[]])) ∧ whole (List.length s.rd) (s.rd ++ []) ∧ foAt n n (List.length (R ++ [[]])) ∧ whole (List.length s.wt) (s.wt ++ []) ∧ stC h ss (IntKind.wrap IntKind.i64 (i + 1)) (n + 1) (n + 1) (List.set (R ++ [[]]) n (sesL (1) { s with pg := (s.pg ++ []), rd := (s.rd ++ []), wt := (s.wt ++ []) })) = stC h ss (IntKind.wrap IntKind.i64 (i + 1)) (n + 1) (n + 1) (List.set (R ++ [[]]) n (sesL (1) { s with pg := (s.pg ++ []), rd := (s.rd ++ []), wt := (s.wt ++ []) })) ∧ N (stC h ss (IntKind.wrap IntKind.i64 (i + 1)) (n + 1) (n + 1) (List.set (R ++ [[]]) n (sesL (1) { s with pg := (s.pg ++ []), rd := (s.rd ++ []), wt := (s.wt ++ []) }))) else False else False else False else stC h ss i n m R = stC h ss i n m R ∧ E (Exit.exit (0)) (stC h ss i n m R)) := by kernel_rfl
def stCi (h : Mh) (ss : List SesD) (i : Nat) : X := match i with | 0 => stC0 h ss 0 | k + 1 => stC h ss ((k + 1 : Nat) : Int) (k + 1) (k + 1) ((ss.take (k + 1)).map (sesL 1))
def fC (h : Mh) (ss : List SesD) (n : Nat) (R : List (List D)) : LSum := fun Q x => wL x 9000 fun W0 => wL x 9001 fun W1 => wL x 9002 fun W2 => wL x 9003 fun W3 => W0 = h.w0 ∧ W1 = h.w1 ∧ W2 = h.w2 ∧ W3 = h.w3 ∧ x.arr [1, 2, 3, 4] [2, 3, 4, 9000, 9001, 9002, 9003, 28] = ZqD h ss 0 W0 W1 W2 W3 ∧ Q (.exit 0) (stC h ss (n : Nat) n n R)
theorem eC (h : Mh) (ss : List SesD) (n : Nat) (R : List (List D)) (K : DV → Prop) : (askW Tryz.prog (hkC [(46, ZbT), (47, ZcH)] [] [] [(5, fC h ss n R)]) Tryz.f19 [.agg (macL 0 h ss)] K) = (bif okC4 h.w0 h.w1 h.w2 h.w3 then h.w0 ++ [] = h.w0 ∧ h.w1 ++ [] = h.w1 ∧ h.w2 ++ [] = h.w2 ∧ h.w3 ++ [] = h.w3 ∧ ZqD h ss (0) (h.w0 ++ []) (h.w1 ++ []) (h.w2 ++ []) (h.w3 ++ []) = ZqD h ss (0) (h.w0 ++ []) (h.w1 ++ []) (h.w2 ++ []) (h.w3 ++ []) ∧ bif allV h.tr then bif true && (decide ((0 + List.length h.tr) * 32 ≤ 140737488355328) && decide (0 + List.length h.tr ≤ 9223372036854775807)) then whole (List.length h.w0) h.w0 ∧ whole (List.length h.w1) h.w1 ∧ whole (List.length h.w2) h.w2 ∧ whole (List.length h.w3) h.w3 ∧ whole n R ∧ whole (0 + List.length h.tr) ([] ++ h.tr) ∧ K (DV.agg (ZaY (1) { h with tr := ([] ++ h.tr) } R)) else False else False else False) := by kernel_rfl
theorem ZdD {n : Nat} {R : List (List D)} (h : smR n R = true) : allK R = true := by
  obtain ⟨_, _, h⟩ := Zac h
  exact h
theorem ZcN {i j n : Nat} : foAt i j n ↔ i = j ∧ j < n := by simp [foAt]
theorem kCpM {h : Mh} {ss : List SesD} (h0 : ss ≠ []) (hs : ss.all smS = true) (hb : ss.length * 184 ≤ 140737488351232) (Q : Exit → X → Prop) (x : X) (hq : fC h ss ss.length (ss.map (sesL 1)) Q x) : XWP Tryz.prog (.loop (Zar Tryz.f19 0)) Q x := by
  unfold fC at hq
  obtain ⟨W0, hq⟩ := ZnW hq
  obtain ⟨W1, hq⟩ := ZnW hq
  obtain ⟨W2, hq⟩ := ZnW hq
  obtain ⟨W3, rfl, rfl, rfl, rfl, hx, hq⟩ := ZnW hq
  have q1 := List.all_eq_true.1 hs
  have hp : 0 < ss.length := List.length_pos_iff.2 h0
  have eN : stCi h ss ss.length = stC h ss ((ss.length : Nat) : Int) ss.length ss.length (ss.map (sesL 1)) := by
    cases hn : ss.length with
    | zero => omega
    | succ k =>
      show stC h ss ((k + 1 : Nat) : Int) (k + 1) (k + 1) (List.map (sesL 1) (List.take (k + 1) ss)) = _
      rw [List.take_of_length_le (by omega)]
  have hH : Zau Tryz.prog (hkC [(47, ZcH)] [] [] []) := ZrR (.cons Zs0 .nil) .nil .nil
  refine Zcm (sw := []) (V := Zku h ss) (VE := fun _ => Zku h ss) mixed (Zm6 h ss) (fun _ => Zm6 h ss) (stCi h ss) (stCi h ss) ss.length (fun _ => false) .ret (.exit 0) (fun i hi => ⟨_, hH, Zai rfl, fun N E _ q2 => ?_⟩) ⟨_, hH, Zai rfl, fun N E q2 => ?_⟩ Q x ⟨hx, fun i hf => by have := hf.2.1; simp at this, fun _ => by rw [eN]; exact hq⟩
  · have q2 := q2 rfl
    have hat : ZcU (List.map (sesL 0) ss) i 0 (sesN ss i) := Zk5 hi
    have hsm : smS (sesN ss i) = true := q1 _ (Zdf hi)
    obtain ⟨m1, m2, m3⟩ := ZaK hsm
    have w1 := Za1 (ZdD m1)
    have w2 := Za1 (ZdD m2)
    have w3 := Za1 (ZdD m3)
    have et : (ss.take (i + 1)).map (sesL 1) = (ss.take i).map (sesL 1) ++ [sesL 1 (sesN ss i)] := by
      rw [List.take_add_one, List.map_append]
      congr 1
      unfold sesN
      rw [List.getD_eq_getElem?_getD, List.getElem?_eq_getElem hi]
      rfl
    cases i with
    | zero =>
      show ZcR Tryz.prog _ _ _ _ _ _ _ _ _ _ (stC0 h ss 0)
      rw [rC0]
      have c0 : decide (0 < @Nat.cast Int _ (List.length (List.map (sesL 0) ss))) = true := by rw [List.length_map]; simp; omega
      simp only [c0, cond_true, Bool.and_self]
      refine ⟨_, hat, ?_⟩
      rw [hsm]
      simp only [cond_true, List.append_nil]
      refine ⟨ZcN.2 ⟨rfl, by decide⟩, w1, ZcN.2 ⟨rfl, by decide⟩, w2, ZcN.2 ⟨rfl, by decide⟩, w3, trivial, ?_⟩
      have q3 : N (stC h ss ((0 + 1 : Nat) : Int) (0 + 1) (0 + 1) ((ss.take (0 + 1)).map (sesL 1))) := q2
      rw [et] at q3
      exact q3
    | succ k =>
      show ZcR Tryz.prog _ _ _ _ _ _ _ _ _ _ (stC h ss ((k + 1 : Nat) : Int) (k + 1) (k + 1) ((ss.take (k + 1)).map (sesL 1)))
      rw [rC1]
      have wi : IntKind.wrap IntKind.i64 (((k + 1 : Nat) : Int) + 1) = ((k + 1 + 1 : Nat) : Int) := Zan (n := 1) (by omega)
      have c0 : decide (((k + 1 : Nat) : Int) < @Nat.cast Int _ (List.length (List.map (sesL 0) ss))) = true := by rw [List.length_map]; simp; omega
      have c1 : decide (0 ≤ ((k + 1 : Nat) : Int)) = true := by simp; omega
      have el : (List.map (sesL 1) (List.take (k + 1) ss)).length = k + 1 := by rw [List.length_map, List.length_take]; omega
      have c2 : (decide ((k + 1 + 1) * 184 ≤ 140737488355328) && decide (k + 1 + 1 ≤ 9223372036854775807)) = true := by simp; omega
      simp only [c0, c1, cond_true, Bool.and_self]
      refine ⟨_, hat, ?_⟩
      rw [hsm]
      simp only [cond_true, List.append_nil]
      refine ⟨el.symm, ?_⟩
      rw [c2]
      have hl : k + 1 < (List.map (sesL 1) (List.take (k + 1) ss) ++ [[]]).length := by rw [List.length_append, el]; simp
      refine ⟨ZcN.2 ⟨rfl, hl⟩, w1, ZcN.2 ⟨rfl, hl⟩, w2, ZcN.2 ⟨rfl, hl⟩, w3, trivial, ?_⟩
      have es : List.set (List.map (sesL 1) (List.take (k + 1) ss) ++ [[]]) (k + 1) (sesL 1 (sesN ss (k + 1))) = (ss.take (k + 1 + 1)).map (sesL 1) := by
        rw [et, List.set_append_right _ _ (by omega), el, Nat.sub_self]; rfl
      show N (stC h ss (IntKind.wrap IntKind.i64 (((k + 1 : Nat) : Int) + 1)) (k + 1 + 1) (k + 1 + 1) (List.set (List.map (sesL 1) (List.take (k + 1) ss) ++ [[]]) (k + 1) (sesL 1 (sesN ss (k + 1)))))
      rw [wi, es]
      exact q2
  · rw [eN] at q2 ⊢
    rw [rC1]
    have c0 : decide (((ss.length : Nat) : Int) < @Nat.cast Int _ (List.length (List.map (sesL 0) ss))) = false := by rw [List.length_map]; simp
    simp only [c0, cond_false, true_and]
    exact q2
theorem ZuQ (h : Mh) (ss : List SesD) (hm : smM h ss = true) (hb : ss.length * 184 ≤ 140737488351232) : CT Tryz.prog 19 [.agg (macL 0 h ss)] (.agg (macL 1 h ss)) := by
  cases h0 : ss with
  | nil =>
    subst h0
    have h4 := Zmw hm
    obtain ⟨⟨a0, a1, a2, a3⟩, a4, a5⟩ := Zc5 hm
    obtain ⟨_, _, b0⟩ := Zac a0
    obtain ⟨_, _, b1⟩ := Zac a1
    obtain ⟨_, _, b2⟩ := Zac a2
    obtain ⟨_, _, b3⟩ := Zac a3
    obtain ⟨t1, t2, t3, t4⟩ := Zkt a4
    refine Zsf (.cons Zr3 (.cons Zs0 .nil)) .nil .nil mixed Tryz.func19 rfl rfl rfl ?_
    rw [ZuU]
    refine ⟨?_⟩
    simp only [kX, tC, tD]
    simp only [h4, b0, b1, b2, b3, t1, t2, t3, t4, Nat.zero_add, List.nil_append, List.append_nil, Nat.le_refl, decide_true, Bool.and_self, Bool.true_and, cond_true, ZbN, Nat.add_zero, Nat.sub_self, List.take_zero]
    exact .aggO (.cons (.refl _) (.cons (.refl _) (.cons (.refl _) (.cons (.refl _) (.cons (.refl _) (.cons (.refl _) (.cons (.refl _) (.cons (.refl _) (.cons (.refl _) (.cons (.nil 17) (.cons (.refl _) .nil)))))))))))
  | cons s l =>
    rw [← h0]
    have hne : ss ≠ [] := by rw [h0]; exact fun e => by cases e
    have h4 := Zmw hm
    obtain ⟨⟨a0, a1, a2, a3⟩, a4, a5⟩ := Zc5 hm
    have hs : ss.all smS = true := List.all_eq_true.2 a5
    obtain ⟨t1, t2, t3, t4⟩ := Zkt a4
    refine Zwy (.cons Zr3 (.cons Zs0 .nil)) .nil .nil mixed (m := [(5, fC h ss ss.length (ss.map (sesL 1)))]) (ZpB (i := 0) (fun j hj _ => by have : j < 1 := hj; omega) (kCpM hne hs hb)) Tryz.func19 rfl rfl rfl ?_
    rw [eC]
    refine ⟨?_⟩
    simp only [h4, t1, t2, t3, t4, List.append_nil, Nat.zero_add, List.nil_append, Nat.le_refl, decide_true, Bool.and_self, Bool.true_and, cond_true, true_and, Nat.add_zero]
    exact ⟨Za1 (ZdD a0), Za1 (ZdD a1), Za1 (ZdD a2), Za1 (ZdD a3), by have := Za1 (ZmP ss); rwa [List.length_map] at this, Za1 (ZdD a4), AL.refl _⟩
def sesO (s : SesD) (p r w : List (List D)) : List D := [vN s.id, vN s.lb, vN s.cl, .s 1 4 s.pg p, vN s.st, vN s.pc, vN s.r0, vN s.r1, vN s.r2, vN s.r3, .s 1 3 s.rd r, .s 1 3 s.wt w, vN s.at', vN s.sp, vN s.tr, vN s.rs, vN s.to]
def spS (p p' r r' w w' : List (List D)) : Prop := okZ 4 (p ++ p') = true ∧ okZ 3 (r ++ r') = true ∧ okZ 3 (w ++ w') = true
def ZgT : Spec := fun ds Q => match ds with
  | [.agg [.v (.int .i64 _), .v (.int .i64 _), .v (.int .i64 _), .s 1 4 p p', .v (.int .i64 _), .v (.int .i64 _), .v (.int .i64 _), .v (.int .i64 _), .v (.int .i64 _), .v (.int .i64 _), .s 1 3 r r', .s 1 3 w w', .v (.int .i64 _), .v (.int .i64 _), .v (.int .i64 _), .v (.int .i64 _), .v (.int .i64 _)]] => spS p p' r r' w w' ∧ Q (.tup [])
  | _ => False
theorem eSpS (s : SesD) (p r w : List (List D)) (K : DV → Prop) : (askH Tryz.prog (hkG [(125, Zec), (126, Zeb), (127, ZdR)] [] fun _ => true) Tryz.f73 [.agg (sesO s p r w)] K) = (bif decide (List.length s.pg ≤ List.length (s.pg ++ p)) && List.all (s.pg ++ p) fun r => List.all r D.keeps then bif allV (s.pg ++ p) then bif okZ (4) (List.take (List.length s.pg) (s.pg ++ p) ++ List.take (List.length s.pg + List.length p - List.length s.pg) (List.drop (List.length s.pg) (s.pg ++ p))) then bif decide (List.length s.rd ≤ List.length (s.rd ++ r)) && List.all (s.rd ++ r) fun r => List.all r D.keeps then bif allV (s.rd ++ r) then bif okZ (3) (List.take (List.length s.rd) (s.rd ++ r) ++ List.take (List.length s.rd + List.length r - List.length s.rd) (List.drop (List.length s.rd) (s.rd ++ r))) then bif decide (List.length s.wt ≤ List.length (s.wt ++ w)) && List.all (s.wt ++ w) fun r => List.all r D.keeps then bif allV (s.wt ++ w) then bif okZ (3) (List.take (List.length s.wt) (s.wt ++ w) ++ List.take (List.length s.wt + List.length w - List.length s.wt) (List.drop (List.length s.wt) (s.wt ++ w))) then K (DV.tup []) else False else False else False else False else False else False else False else False else False) := by kernel_rfl
theorem Zvp (h : Mh) (K : DV → Prop) : (askB Tryz.prog (hkG [(72, Zen), (73, ZgT), (74, Zbq)] [] fun _ => true) Tryz.f28 [.agg (macL 1 h [])] K) = (bif kX h.w0 then bif kX h.w1 then bif kX h.w2 then bif kX h.w3 then bif aX h.w0 then bif aX h.w1 then bif aX h.w2 then bif aX h.w3 then bif okZ (3) (tC h.w0 ++ tD h.w0) && (okZ (3) (tC h.w1 ++ tD h.w1) && (okZ (3) (tC h.w2 ++ tD h.w2) && okZ (3) (tC h.w3 ++ tD h.w3))) then bif kX h.tr then bif aX h.tr then bif okZ (4) (tC h.tr ++ tD h.tr) then K (DV.tup []) else False else False else False else False else False else False else False else False else False else False else False else False) := by kernel_rfl
theorem Zwm (h : Mh) (s0 : SesD) (K : DV → Prop) : (askB Tryz.prog (hkG [(72, Zen), (73, ZgT), (74, Zbq)] [] fun _ => true) Tryz.f28 [.agg (macL 1 h [s0])] K) = (bif kX h.w0 then bif kX h.w1 then bif kX h.w2 then bif kX h.w3 then bif aX h.w0 then bif aX h.w1 then bif aX h.w2 then bif aX h.w3 then bif okZ (3) (tC h.w0 ++ tD h.w0) && (okZ (3) (tC h.w1 ++ tD h.w1) && (okZ (3) (tC h.w2 ++ tD h.w2) && okZ (3) (tC h.w3 ++ tD h.w3))) then bif kX s0.pg then bif kX s0.rd then bif kX s0.wt then bif aX s0.pg then bif aX s0.rd then bif aX s0.wt then spS (tC s0.pg) (tD s0.pg) (tC s0.rd) (tD s0.rd) (tC s0.wt) (tD s0.wt) ∧ bif kX h.tr then bif aX h.tr then bif okZ (4) (tC h.tr ++ tD h.tr) then K (DV.tup []) else False else False else False else False else False else False else False else False else False else False else False else False else False else False else False else False else False else False) := by kernel_rfl
theorem ZwO (h : Mh) (s0 s1 : SesD) (K : DV → Prop) : (askB Tryz.prog (hkG [(72, Zen), (73, ZgT), (74, Zbq)] [] fun _ => true) Tryz.f28 [.agg (macL 1 h [s0, s1])] K) = (bif kX h.w0 then bif kX h.w1 then bif kX h.w2 then bif kX h.w3 then bif aX h.w0 then bif aX h.w1 then bif aX h.w2 then bif aX h.w3 then bif okZ (3) (tC h.w0 ++ tD h.w0) && (okZ (3) (tC h.w1 ++ tD h.w1) && (okZ (3) (tC h.w2 ++ tD h.w2) && okZ (3) (tC h.w3 ++ tD h.w3))) then bif kX s0.pg then bif kX s0.rd then bif kX s0.wt then bif aX s0.pg then bif aX s0.rd then bif aX s0.wt then spS (tC s0.pg) (tD s0.pg) (tC s0.rd) (tD s0.rd) (tC s0.wt) (tD s0.wt) ∧ bif kX s1.pg then bif kX s1.rd then bif kX s1.wt then bif aX s1.pg then bif aX s1.rd then bif aX s1.wt then spS (tC s1.pg) (tD s1.pg) (tC s1.rd) (tD s1.rd) (tC s1.wt) (tD s1.wt) ∧ bif kX h.tr then bif aX h.tr then bif okZ (4) (tC h.tr ++ tD h.tr) then K (DV.tup []) else False else False else False else False else False else False else False else False else False else False else False else False else False else False else False else False else False else False else False else False else False else False else False else False) := by kernel_rfl
theorem ZwY (h : Mh) (s0 s1 s2 : SesD) (K : DV → Prop) : (askB Tryz.prog (hkG [(72, Zen), (73, ZgT), (74, Zbq)] [] fun _ => true) Tryz.f28 [.agg (macL 1 h [s0, s1, s2])] K) = (bif kX h.w0 then bif kX h.w1 then bif kX h.w2 then bif kX h.w3 then bif aX h.w0 then bif aX h.w1 then bif aX h.w2 then bif aX h.w3 then bif okZ (3) (tC h.w0 ++ tD h.w0) && (okZ (3) (tC h.w1 ++ tD h.w1) && (okZ (3) (tC h.w2 ++ tD h.w2) && okZ (3) (tC h.w3 ++ tD h.w3))) then bif kX s0.pg then bif kX s0.rd then bif kX s0.wt then bif aX s0.pg then bif aX s0.rd then bif aX s0.wt then spS (tC s0.pg) (tD s0.pg) (tC s0.rd) (tD s0.rd) (tC s0.wt) (tD s0.wt) ∧ bif kX s1.pg then bif kX s1.rd then bif kX s1.wt then bif aX s1.pg then bif aX s1.rd then bif aX s1.wt then spS (tC s1.pg) (tD s1.pg) (tC s1.rd) (tD s1.rd) (tC s1.wt) (tD s1.wt) ∧ bif kX s2.pg then bif kX s2.rd then bif kX s2.wt then bif aX s2.pg then bif aX s2.rd then bif aX s2.wt then spS (tC s2.pg) (tD s2.pg) (tC s2.rd) (tD s2.rd) (tC s2.wt) (tD s2.wt) ∧ bif kX h.tr then bif aX h.tr then bif okZ (4) (tC h.tr ++ tD h.tr) then K (DV.tup []) else False else False else False else False else False else False else False else False else False else False else False else False else False else False else False else False else False else False else False else False else False else False else False else False else False else False else False else False else False else False) := by kernel_rfl
theorem ZvA (h : Mh) (s0 s1 s2 s3 : SesD) (K : DV → Prop) : (askB Tryz.prog (hkG [(72, Zen), (73, ZgT), (74, Zbq)] [] fun _ => true) Tryz.f28 [.agg (macL 1 h [s0, s1, s2, s3])] K) = (bif kX h.w0 then bif kX h.w1 then bif kX h.w2 then bif kX h.w3 then bif aX h.w0 then bif aX h.w1 then bif aX h.w2 then bif aX h.w3 then bif okZ (3) (tC h.w0 ++ tD h.w0) && (okZ (3) (tC h.w1 ++ tD h.w1) && (okZ (3) (tC h.w2 ++ tD h.w2) && okZ (3) (tC h.w3 ++ tD h.w3))) then bif kX s0.pg then bif kX s0.rd then bif kX s0.wt then bif aX s0.pg then bif aX s0.rd then bif aX s0.wt then spS (tC s0.pg) (tD s0.pg) (tC s0.rd) (tD s0.rd) (tC s0.wt) (tD s0.wt) ∧ bif kX s1.pg then bif kX s1.rd then bif kX s1.wt then bif aX s1.pg then bif aX s1.rd then bif aX s1.wt then spS (tC s1.pg) (tD s1.pg) (tC s1.rd) (tD s1.rd) (tC s1.wt) (tD s1.wt) ∧ bif kX s2.pg then bif kX s2.rd then bif kX s2.wt then bif aX s2.pg then bif aX s2.rd then bif aX s2.wt then spS (tC s2.pg) (tD s2.pg) (tC s2.rd) (tD s2.rd) (tC s2.wt) (tD s2.wt) ∧ bif kX s3.pg then bif kX s3.rd then bif kX s3.wt then bif aX s3.pg then bif aX s3.rd then bif aX s3.wt then spS (tC s3.pg) (tD s3.pg) (tC s3.rd) (tD s3.rd) (tC s3.wt) (tD s3.wt) ∧ bif kX h.tr then bif aX h.tr then bif okZ (4) (tC h.tr ++ tD h.tr) then K (DV.tup []) else False else False else False else False else False else False else False else False else False else False else False else False else False else False else False else False else False else False else False else False else False else False else False else False else False else False else False else False else False else False else False else False else False else False else False else False) := by kernel_rfl
theorem tkd (R p : List (List D)) : List.take R.length (R ++ p) ++ List.take (R.length + p.length - R.length) (List.drop R.length (R ++ p)) = R ++ p := by simp
theorem gSpS : Goes Tryz.prog 73 := Zat Tryz.func73 (by kernel_rfl) rfl
theorem cSpS (s : SesD) (p r w : List (List D)) (hp : spS s.pg p s.rd r s.wt w) : CT Tryz.prog 73 [.agg (sesO s p r w)] (.tup []) := by
  obtain ⟨h1, h2, h3⟩ := hp
  refine Ztl (Zpy (g := fun _ => true) (.cons Zlz (.cons Zlw (.cons ZjV .nil))) .nil) mixed Zbs Tryz.func73 rfl rfl (by simp [DV.fit32, DV.width, sesO]) ?_
  rw [eSpS]
  refine ⟨?_⟩
  have le : ∀ R p : List (List D), decide (R.length ≤ (R ++ p).length) = true := fun R p => by simp
  simp only [tkd, le, h1, h2, h3, Zaa h1, Zaa h2, Zaa h3, Zaq (Zaa h1), Zaq (Zaa h2), Zaq (Zaa h3), Bool.and_self, cond_true]
  exact AL.refl _
theorem oSpS : Zad Tryz.prog 73 ZgT := fun ds Q q => by
  unfold ZgT at q; split at q
  · rename_i a0 a1 a2 p p' a4 a5 b0 b1 b2 b3 r r' w w' c0 c1 c2 c3 c4
    exact ⟨gSpS, _, cSpS ⟨a0, a1, a2, p, a4, a5, b0, b1, b2, b3, r, w, c0, c1, c2, c3, c4⟩ p' r' w' q.1, .inl rfl, rfl, q.2⟩
  · exact q.elim
theorem cSpM (h : Mh) (ss : List SesD) (hok : okM h ss = true) (hl : ss.length ≤ 4) : CT Tryz.prog 28 [.agg (macL 1 h ss)] (.tup []) := by
  obtain ⟨g1, g2, g3⟩ := ZbP hok
  obtain ⟨w0, w1, w2, w3⟩ := Zb2 g1
  have q := List.all_eq_true.1 g3
  have hH := Zpy (g := fun _ => true) (.cons Zs6 (.cons oSpS (.cons Zjn .nil))) .nil
  rcases ss with _ | ⟨s0, _ | ⟨s1, _ | ⟨s2, _ | ⟨s3, _ | ⟨s4, l⟩⟩⟩⟩⟩
  · refine Zox hH mixed Zbs Tryz.func28 rfl rfl ?_
    rw [Zvp]
    refine ⟨?_⟩
    simp only [tC_e, tD_e, List.append_nil, w0, kX_t (Zaa w0), aX_t (Zaa w0), w1, kX_t (Zaa w1), aX_t (Zaa w1), w2, kX_t (Zaa w2), aX_t (Zaa w2), w3, kX_t (Zaa w3), aX_t (Zaa w3), g2, kX_t (Zaa g2), aX_t (Zaa g2), Bool.and_self, cond_true]
    exact AL.refl _
  · have k0 := q s0 (by simp)
    obtain ⟨p0, r0, u0⟩ := ZaV k0
    refine Zox hH mixed Zbs Tryz.func28 rfl rfl ?_
    rw [Zwm]
    refine ⟨?_⟩
    simp only [tC_e, tD_e, List.append_nil, w0, kX_t (Zaa w0), aX_t (Zaa w0), w1, kX_t (Zaa w1), aX_t (Zaa w1), w2, kX_t (Zaa w2), aX_t (Zaa w2), w3, kX_t (Zaa w3), aX_t (Zaa w3), g2, kX_t (Zaa g2), aX_t (Zaa g2), p0, kX_t (Zaa p0), aX_t (Zaa p0), r0, kX_t (Zaa r0), aX_t (Zaa r0), u0, kX_t (Zaa u0), aX_t (Zaa u0), Bool.and_self, cond_true, spS, and_self, true_and]
    exact AL.refl _
  · have k0 := q s0 (by simp)
    obtain ⟨p0, r0, u0⟩ := ZaV k0
    have k1 := q s1 (by simp)
    obtain ⟨p1, r1, u1⟩ := ZaV k1
    refine Zox hH mixed Zbs Tryz.func28 rfl rfl ?_
    rw [ZwO]
    refine ⟨?_⟩
    simp only [tC_e, tD_e, List.append_nil, w0, kX_t (Zaa w0), aX_t (Zaa w0), w1, kX_t (Zaa w1), aX_t (Zaa w1), w2, kX_t (Zaa w2), aX_t (Zaa w2), w3, kX_t (Zaa w3), aX_t (Zaa w3), g2, kX_t (Zaa g2), aX_t (Zaa g2), p0, kX_t (Zaa p0), aX_t (Zaa p0), r0, kX_t (Zaa r0), aX_t (Zaa r0), u0, kX_t (Zaa u0), aX_t (Zaa u0), p1, kX_t (Zaa p1), aX_t (Zaa p1), r1, kX_t (Zaa r1), aX_t (Zaa r1), u1, kX_t (Zaa u1), aX_t (Zaa u1), Bool.and_self, cond_true, spS, and_self, true_and]
    exact AL.refl _
  · have k0 := q s0 (by simp)
    obtain ⟨p0, r0, u0⟩ := ZaV k0
    have k1 := q s1 (by simp)
    obtain ⟨p1, r1, u1⟩ := ZaV k1
    have k2 := q s2 (by simp)
    obtain ⟨p2, r2, u2⟩ := ZaV k2
    refine Zox hH mixed Zbs Tryz.func28 rfl rfl ?_
    rw [ZwY]
    refine ⟨?_⟩
    simp only [tC_e, tD_e, List.append_nil, w0, kX_t (Zaa w0), aX_t (Zaa w0), w1, kX_t (Zaa w1), aX_t (Zaa w1), w2, kX_t (Zaa w2), aX_t (Zaa w2), w3, kX_t (Zaa w3), aX_t (Zaa w3), g2, kX_t (Zaa g2), aX_t (Zaa g2), p0, kX_t (Zaa p0), aX_t (Zaa p0), r0, kX_t (Zaa r0), aX_t (Zaa r0), u0, kX_t (Zaa u0), aX_t (Zaa u0), p1, kX_t (Zaa p1), aX_t (Zaa p1), r1, kX_t (Zaa r1), aX_t (Zaa r1), u1, kX_t (Zaa u1), aX_t (Zaa u1), p2, kX_t (Zaa p2), aX_t (Zaa p2), r2, kX_t (Zaa r2), aX_t (Zaa r2), u2, kX_t (Zaa u2), aX_t (Zaa u2), Bool.and_self, cond_true, spS, and_self, true_and]
    exact AL.refl _
  · have k0 := q s0 (by simp)
    obtain ⟨p0, r0, u0⟩ := ZaV k0
    have k1 := q s1 (by simp)
    obtain ⟨p1, r1, u1⟩ := ZaV k1
    have k2 := q s2 (by simp)
    obtain ⟨p2, r2, u2⟩ := ZaV k2
    have k3 := q s3 (by simp)
    obtain ⟨p3, r3, u3⟩ := ZaV k3
    refine Zox hH mixed Zbs Tryz.func28 rfl rfl ?_
    rw [ZvA]
    refine ⟨?_⟩
    simp only [tC_e, tD_e, List.append_nil, w0, kX_t (Zaa w0), aX_t (Zaa w0), w1, kX_t (Zaa w1), aX_t (Zaa w1), w2, kX_t (Zaa w2), aX_t (Zaa w2), w3, kX_t (Zaa w3), aX_t (Zaa w3), g2, kX_t (Zaa g2), aX_t (Zaa g2), p0, kX_t (Zaa p0), aX_t (Zaa p0), r0, kX_t (Zaa r0), aX_t (Zaa r0), u0, kX_t (Zaa u0), aX_t (Zaa u0), p1, kX_t (Zaa p1), aX_t (Zaa p1), r1, kX_t (Zaa r1), aX_t (Zaa r1), u1, kX_t (Zaa u1), aX_t (Zaa u1), p2, kX_t (Zaa p2), aX_t (Zaa p2), r2, kX_t (Zaa r2), aX_t (Zaa r2), u2, kX_t (Zaa u2), aX_t (Zaa u2), p3, kX_t (Zaa p3), aX_t (Zaa p3), r3, kX_t (Zaa r3), aX_t (Zaa r3), u3, kX_t (Zaa u3), aX_t (Zaa u3), Bool.and_self, cond_true, spS, and_self, true_and]
    exact AL.refl _
  · simp at hl
end

section
open Go Go.Proofs
def sQt (s : SesD) : List D := [vN s.id, vN s.lb, vN s.cl, .s 0 4 (cC s.pg) (cD s.pg), vN s.st, vN s.pc, vN s.r0, vN s.r1, vN s.r2, vN s.r3, .s 0 3 (cC s.rd) (cD s.rd), .s 0 3 (cC s.wt) (cD s.wt), vN s.at', vN s.sp, vN s.tr, vN s.rs, vN s.to]
theorem Zo0 (s : SesD) : sQt s = sesL 0 s := by simp only [sQt, cC_e, cD_e]; rfl
theorem ZpD (s : SesD) : sTt s = sesL 1 s := by simp only [sTt, tC_e, tD_e]; rfl
def Zdt (ds : List DV) : Prop := ∃ h ss, okM h ss = true ∧ ss.length ≤ 9223372036854775806 ∧ All2 AL ds [.agg (macL 0 h ss), .agg (macL 0 h ss)]
def ZnB : Spec := fun ds Q => Zdt ds ∧ Q (B true)
def spM (ds : List DV) : Prop := ∃ h ss, ss.length ≤ 4 ∧ okM h ss = true ∧ ds = [.agg (macL 1 h ss)]
def sSpM : Spec := fun ds Q => spM ds ∧ Q (.tup [])
theorem eSg0 (h h1 : Mh) (ss : List SesD) (i e : Int) (K : DV → Prop) : (askW Tryz.prog (hkG [(19, sAtD [.agg (macL 0 h ss)] (.agg (macL 0 h ss))), (39, sAtD [.agg (macL 0 h ss), I i] (.tup [.agg (macL 0 h1 []), I e])), (24, ZnB), (25, sI), (40, sAtD [] (B true)), (28, sSpM)] [(38, Zfn Tryz.prog [34] (sAtD [.agg (macL 0 h ss), I i] (.tup [.agg (macL 1 h1 []), I e])))] fun f => Nat.beq f 28) Tryz.f14 [.agg (macL 0 h ss), I i] K) = ([DV.agg (macL (0) h ss)] = [DV.agg (macL (0) h ss)] ∧ [DV.agg (macL (0) h ss), I i] = [DV.agg (macL (0) h ss), I i] ∧ [DV.agg (macL (0) h ss), I i] = [DV.agg (macL (0) h ss), I i] ∧ bif lX h1.w0 then bif lX h1.w1 then bif lX h1.w2 then bif lX h1.w3 then bif lX h1.tr then Zdt [DV.agg [D.s (0) (3) (cC h1.w0) (cD h1.w0), D.s (0) (3) (cC h1.w1) (cD h1.w1), D.s (0) (3) (cC h1.w2) (cD h1.w2), D.s (0) (3) (cC h1.w3) (cD h1.w3), vN h1.c0, vN h1.c1, vN h1.c2, vN h1.c3, vN h1.ce, D.s (0) (17) [] [], D.s (0) (4) (cC h1.tr) (cD h1.tr)], DV.agg (ZaY (0) h1 [])] ∧ bif e != e then K (B false) else bif kX h1.w0 then bif kX h1.w1 then bif kX h1.w2 then bif kX h1.w3 then bif kX h1.tr then bif aX h1.w0 then bif aX h1.w1 then bif aX h1.w2 then bif aX h1.w3 then bif aX h1.tr then spM [DV.agg [D.s (1) (3) (tC h1.w0) (tD h1.w0), D.s (1) (3) (tC h1.w1) (tD h1.w1), D.s (1) (3) (tC h1.w2) (tD h1.w2), D.s (1) (3) (tC h1.w3) (tD h1.w3), vN h1.c0, vN h1.c1, vN h1.c2, vN h1.c3, vN h1.ce, D.s (1) (17) [] [], D.s (1) (4) (tC h1.tr) (tD h1.tr)]] ∧ Zdt [DV.agg (macL (0) h ss), DV.agg (macL (0) h ss)] ∧ ([] : List DV) = [] ∧ K (B true) else False else False else False else False else False else False else False else False else False else False else False else False else False else False else False) := by kernel_rfl
theorem eSg1 (h h1 : Mh) (ss : List SesD) (t0 : SesD) (i e : Int) (K : DV → Prop) : (askW Tryz.prog (hkG [(19, sAtD [.agg (macL 0 h ss)] (.agg (macL 0 h ss))), (39, sAtD [.agg (macL 0 h ss), I i] (.tup [.agg (macL 0 h1 [t0]), I e])), (24, ZnB), (25, sI), (40, sAtD [] (B true)), (28, sSpM)] [(38, Zfn Tryz.prog [34] (sAtD [.agg (macL 0 h ss), I i] (.tup [.agg (macL 1 h1 [t0]), I e])))] fun f => Nat.beq f 28) Tryz.f14 [.agg (macL 0 h ss), I i] K) = ([DV.agg (macL (0) h ss)] = [DV.agg (macL (0) h ss)] ∧ [DV.agg (macL (0) h ss), I i] = [DV.agg (macL (0) h ss), I i] ∧ [DV.agg (macL (0) h ss), I i] = [DV.agg (macL (0) h ss), I i] ∧ bif lX h1.w0 then bif lX h1.w1 then bif lX h1.w2 then bif lX h1.w3 then bif lX t0.pg then bif lX t0.rd then bif lX t0.wt then bif lX h1.tr then Zdt [DV.agg [D.s (0) (3) (cC h1.w0) (cD h1.w0), D.s (0) (3) (cC h1.w1) (cD h1.w1), D.s (0) (3) (cC h1.w2) (cD h1.w2), D.s (0) (3) (cC h1.w3) (cD h1.w3), vN h1.c0, vN h1.c1, vN h1.c2, vN h1.c3, vN h1.ce, D.s (0) (17) [(sQt t0)] [], D.s (0) (4) (cC h1.tr) (cD h1.tr)], DV.agg (ZaY (0) h1 [(sesL (0) t0)])] ∧ bif e != e then K (B false) else bif kX h1.w0 then bif kX h1.w1 then bif kX h1.w2 then bif kX h1.w3 then bif kX t0.pg then bif kX t0.rd then bif kX t0.wt then bif kX h1.tr then bif aX h1.w0 then bif aX h1.w1 then bif aX h1.w2 then bif aX h1.w3 then bif aX t0.pg then bif aX t0.rd then bif aX t0.wt then bif aX h1.tr then spM [DV.agg [D.s (1) (3) (tC h1.w0) (tD h1.w0), D.s (1) (3) (tC h1.w1) (tD h1.w1), D.s (1) (3) (tC h1.w2) (tD h1.w2), D.s (1) (3) (tC h1.w3) (tD h1.w3), vN h1.c0, vN h1.c1, vN h1.c2, vN h1.c3, vN h1.ce, D.s (1) (17) [(sTt t0)] [], D.s (1) (4) (tC h1.tr) (tD h1.tr)]] ∧ Zdt [DV.agg (macL (0) h ss), DV.agg (macL (0) h ss)] ∧ ([] : List DV) = [] ∧ K (B true) else False else False else False else False else False else False else False else False else False else False else False else False else False else False else False else False else False else False else False else False else False else False else False else False) := by kernel_rfl
theorem eSg2 (h h1 : Mh) (ss : List SesD) (t0 t1 : SesD) (i e : Int) (K : DV → Prop) : (askW Tryz.prog (hkG [(19, sAtD [.agg (macL 0 h ss)] (.agg (macL 0 h ss))), (39, sAtD [.agg (macL 0 h ss), I i] (.tup [.agg (macL 0 h1 [t0, t1]), I e])), (24, ZnB), (25, sI), (40, sAtD [] (B true)), (28, sSpM)] [(38, Zfn Tryz.prog [34] (sAtD [.agg (macL 0 h ss), I i] (.tup [.agg (macL 1 h1 [t0, t1]), I e])))] fun f => Nat.beq f 28) Tryz.f14 [.agg (macL 0 h ss), I i] K) = ([DV.agg (macL (0) h ss)] = [DV.agg (macL (0) h ss)] ∧ [DV.agg (macL (0) h ss), I i] = [DV.agg (macL (0) h ss), I i] ∧ [DV.agg (macL (0) h ss), I i] = [DV.agg (macL (0) h ss), I i] ∧ bif lX h1.w0 then bif lX h1.w1 then bif lX h1.w2 then bif lX h1.w3 then bif lX t0.pg then bif lX t0.rd then bif lX t0.wt then bif lX t1.pg then bif lX t1.rd then bif lX t1.wt then bif lX h1.tr then Zdt [DV.agg [D.s (0) (3) (cC h1.w0) (cD h1.w0), D.s (0) (3) (cC h1.w1) (cD h1.w1), D.s (0) (3) (cC h1.w2) (cD h1.w2), D.s (0) (3) (cC h1.w3) (cD h1.w3), vN h1.c0, vN h1.c1, vN h1.c2, vN h1.c3, vN h1.ce, D.s (0) (17) [(sQt t0), (sQt t1)] [], D.s (0) (4) (cC h1.tr) (cD h1.tr)], DV.agg (ZaY (0) h1 [(sesL (0) t0), (sesL (0) t1)])] ∧ bif e != e then K (B false) else bif kX h1.w0 then bif kX h1.w1 then bif kX h1.w2 then bif kX h1.w3 then bif kX t0.pg then bif kX t0.rd then bif kX t0.wt then bif kX t1.pg then bif kX t1.rd then bif kX t1.wt then bif kX h1.tr then bif aX h1.w0 then bif aX h1.w1 then bif aX h1.w2 then bif aX h1.w3 then bif aX t0.pg then bif aX t0.rd then bif aX t0.wt then bif aX t1.pg then bif aX t1.rd then bif aX t1.wt then bif aX h1.tr then spM [DV.agg [D.s (1) (3) (tC h1.w0) (tD h1.w0), D.s (1) (3) (tC h1.w1) (tD h1.w1), D.s (1) (3) (tC h1.w2) (tD h1.w2), D.s (1) (3) (tC h1.w3) (tD h1.w3), vN h1.c0, vN h1.c1, vN h1.c2, vN h1.c3, vN h1.ce, D.s (1) (17) [(sTt t0), (sTt t1)] [], D.s (1) (4) (tC h1.tr) (tD h1.tr)]] ∧ Zdt [DV.agg (macL (0) h ss), DV.agg (macL (0) h ss)] ∧ ([] : List DV) = [] ∧ K (B true) else False else False else False else False else False else False else False else False else False else False else False else False else False else False else False else False else False else False else False else False else False else False else False else False else False else False else False else False else False else False else False else False else False) := by kernel_rfl
theorem eSg3 (h h1 : Mh) (ss : List SesD) (t0 t1 t2 : SesD) (i e : Int) (K : DV → Prop) : (askW Tryz.prog (hkG [(19, sAtD [.agg (macL 0 h ss)] (.agg (macL 0 h ss))), (39, sAtD [.agg (macL 0 h ss), I i] (.tup [.agg (macL 0 h1 [t0, t1, t2]), I e])), (24, ZnB), (25, sI), (40, sAtD [] (B true)), (28, sSpM)] [(38, Zfn Tryz.prog [34] (sAtD [.agg (macL 0 h ss), I i] (.tup [.agg (macL 1 h1 [t0, t1, t2]), I e])))] fun f => Nat.beq f 28) Tryz.f14 [.agg (macL 0 h ss), I i] K) = ([DV.agg (macL (0) h ss)] = [DV.agg (macL (0) h ss)] ∧ [DV.agg (macL (0) h ss), I i] = [DV.agg (macL (0) h ss), I i] ∧ [DV.agg (macL (0) h ss), I i] = [DV.agg (macL (0) h ss), I i] ∧ bif lX h1.w0 then bif lX h1.w1 then bif lX h1.w2 then bif lX h1.w3 then bif lX t0.pg then bif lX t0.rd then bif lX t0.wt then bif lX t1.pg then bif lX t1.rd then bif lX t1.wt then bif lX t2.pg then bif lX t2.rd then bif lX t2.wt then bif lX h1.tr then Zdt [DV.agg [D.s (0) (3) (cC h1.w0) (cD h1.w0), D.s (0) (3) (cC h1.w1) (cD h1.w1), D.s (0) (3) (cC h1.w2) (cD h1.w2), D.s (0) (3) (cC h1.w3) (cD h1.w3), vN h1.c0, vN h1.c1, vN h1.c2, vN h1.c3, vN h1.ce, D.s (0) (17) [(sQt t0), (sQt t1), (sQt t2)] [], D.s (0) (4) (cC h1.tr) (cD h1.tr)], DV.agg (ZaY (0) h1 [(sesL (0) t0), (sesL (0) t1), (sesL (0) t2)])] ∧ bif e != e then K (B false) else bif kX h1.w0 then bif kX h1.w1 then bif kX h1.w2 then bif kX h1.w3 then bif kX t0.pg then bif kX t0.rd then bif kX t0.wt then bif kX t1.pg then bif kX t1.rd then bif kX t1.wt then bif kX t2.pg then bif kX t2.rd then bif kX t2.wt then bif kX h1.tr then bif aX h1.w0 then bif aX h1.w1 then bif aX h1.w2 then bif aX h1.w3 then bif aX t0.pg then bif aX t0.rd then bif aX t0.wt then bif aX t1.pg then bif aX t1.rd then bif aX t1.wt then bif aX t2.pg then bif aX t2.rd then bif aX t2.wt then bif aX h1.tr then spM [DV.agg [D.s (1) (3) (tC h1.w0) (tD h1.w0), D.s (1) (3) (tC h1.w1) (tD h1.w1), D.s (1) (3) (tC h1.w2) (tD h1.w2), D.s (1) (3) (tC h1.w3) (tD h1.w3), vN h1.c0, vN h1.c1, vN h1.c2, vN h1.c3, vN h1.ce, D.s (1) (17) [(sTt t0), (sTt t1), (sTt t2)] [], D.s (1) (4) (tC h1.tr) (tD h1.tr)]] ∧ Zdt [DV.agg (macL (0) h ss), DV.agg (macL (0) h ss)] ∧ ([] : List DV) = [] ∧ K (B true) else False else False else False else False else False else False else False else False else False else False else False else False else False else False else False else False else False else False else False else False else False else False else False else False else False else False else False else False else False else False else False else False else False else False else False else False else False else False else False else False else False else False) := by kernel_rfl
theorem eSg4 (h h1 : Mh) (ss : List SesD) (t0 t1 t2 t3 : SesD) (i e : Int) (K : DV → Prop) : (askW Tryz.prog (hkG [(19, sAtD [.agg (macL 0 h ss)] (.agg (macL 0 h ss))), (39, sAtD [.agg (macL 0 h ss), I i] (.tup [.agg (macL 0 h1 [t0, t1, t2, t3]), I e])), (24, ZnB), (25, sI), (40, sAtD [] (B true)), (28, sSpM)] [(38, Zfn Tryz.prog [34] (sAtD [.agg (macL 0 h ss), I i] (.tup [.agg (macL 1 h1 [t0, t1, t2, t3]), I e])))] fun f => Nat.beq f 28) Tryz.f14 [.agg (macL 0 h ss), I i] K) = ([DV.agg (macL (0) h ss)] = [DV.agg (macL (0) h ss)] ∧ [DV.agg (macL (0) h ss), I i] = [DV.agg (macL (0) h ss), I i] ∧ [DV.agg (macL (0) h ss), I i] = [DV.agg (macL (0) h ss), I i] ∧ bif lX h1.w0 then bif lX h1.w1 then bif lX h1.w2 then bif lX h1.w3 then bif lX t0.pg then bif lX t0.rd then bif lX t0.wt then bif lX t1.pg then bif lX t1.rd then bif lX t1.wt then bif lX t2.pg then bif lX t2.rd then bif lX t2.wt then bif lX t3.pg then bif lX t3.rd then bif lX t3.wt then bif lX h1.tr then Zdt [DV.agg [D.s (0) (3) (cC h1.w0) (cD h1.w0), D.s (0) (3) (cC h1.w1) (cD h1.w1), D.s (0) (3) (cC h1.w2) (cD h1.w2), D.s (0) (3) (cC h1.w3) (cD h1.w3), vN h1.c0, vN h1.c1, vN h1.c2, vN h1.c3, vN h1.ce, D.s (0) (17) [(sQt t0), (sQt t1), (sQt t2), (sQt t3)] [], D.s (0) (4) (cC h1.tr) (cD h1.tr)], DV.agg (ZaY (0) h1 [(sesL (0) t0), (sesL (0) t1), (sesL (0) t2), (sesL (0) t3)])] ∧ bif e != e then K (B false) else bif kX h1.w0 then bif kX h1.w1 then bif kX h1.w2 then bif kX h1.w3 then bif kX t0.pg then bif kX t0.rd then bif kX t0.wt then bif kX t1.pg then bif kX t1.rd then bif kX t1.wt then bif kX t2.pg then bif kX t2.rd then bif kX t2.wt then bif kX t3.pg then bif kX t3.rd then bif kX t3.wt then bif kX h1.tr then bif aX h1.w0 then bif aX h1.w1 then bif aX h1.w2 then bif aX h1.w3 then bif aX t0.pg then bif aX t0.rd then bif aX t0.wt then bif aX t1.pg then bif aX t1.rd then bif aX t1.wt then bif aX t2.pg then bif aX t2.rd then bif aX t2.wt then bif aX t3.pg then bif aX t3.rd then bif aX t3.wt then bif aX h1.tr then spM [DV.agg [D.s (1) (3) (tC h1.w0) (tD h1.w0), D.s (1) (3) (tC h1.w1) (tD h1.w1), D.s (1) (3) (tC h1.w2) (tD h1.w2), D.s (1) (3) (tC h1.w3) (tD h1.w3), vN h1.c0, vN h1.c1, vN h1.c2, vN h1.c3, vN h1.ce, D.s (1) (17) [(sTt t0), (sTt t1), (sTt t2), (sTt t3)] [], D.s (1) (4) (tC h1.tr) (tD h1.tr)]] ∧ Zdt [DV.agg (macL (0) h ss), DV.agg (macL (0) h ss)] ∧ ([] : List DV) = [] ∧ K (B true) else False else False else False else False else False else False else False else False else False else False else False else False else False else False else False else False else False else False else False else False else False else False else False else False else False else False else False else False else False else False else False else False else False else False else False else False else False else False else False else False else False else False else False else False else False else False else False else False else False else False else False) := by kernel_rfl
theorem ZuV : Goes Tryz.prog 39 := Zat Tryz.func39 (by kernel_rfl) rfl
theorem Ztw {R : List (List D)} {a b k v : Int} (h : okZ 4 R = true) (hl : R.length ≤ 512) : okZ 4 (R ++ [[vN a, vN b, vN k, vN v]]) = true := by
  unfold okZ at *
  rw [Bool.and_eq_true] at *
  refine ⟨?_, Nat.ble_eq_true_of_le (by simp; omega)⟩
  rw [List.all_append, h.1]; rfl
theorem Zqo {h : Mh} (ht : okZ 4 h.tr = true) (hl : h.tr.length ≤ 512) (a b k v : Int) : okZ 4 (Zkw h a b k v).tr = true := by
  show okZ 4 (bif decide ((h.tr.length : Int) < 512) then h.tr ++ [[vN a, vN b, vN k, vN v]] else h.tr) = true
  cases decide ((h.tr.length : Int) < 512)
  · exact ht
  · exact Ztw ht hl
theorem ZvK : Zad Tryz.prog 24 ZnB := o_al Tryz.func24 (by kernel_rfl) rfl fun ds Q q => by
  obtain ⟨⟨h, ss, ho, hl, ha⟩, q⟩ := q
  have := cSM h ss h ss ho ho hl
  rw [(ZqC ho ho).2 ⟨rfl, rfl⟩] at this
  exact ⟨_, _, ha, this, rfl, rfl, q⟩
theorem oSpM : Zad Tryz.prog 28 sSpM := fun ds Q q => by
  obtain ⟨⟨h, ss, hl, ho, rfl⟩, q⟩ := q
  exact ⟨Zat Tryz.func28 (by kernel_rfl) rfl, _, cSpM h ss ho hl, .inl rfl, rfl, q⟩
theorem ZuZ {h : Mh} {ss : List SesD} (hm : smM h ss = true) (hb : ss.length * 184 ≤ 140737488351232) : Zad Tryz.prog 19 (sAtD [.agg (macL 0 h ss)] (.agg (macL 0 h ss))) :=
  oAtZ ZwU (ZuQ h ss hm hb) (Zlm hm) (Zp8 (Zr0 h ss) rfl) rfl
theorem oZ {f : FuncId} {h h1 : Mh} {ss ts : List SesD} {i e : Int} (hg : Goes Tryz.prog f) (hc : CT Tryz.prog f [.agg (macL 0 h ss), I i] (macR h1 ts e)) (hs : smM h1 ts = true) : Zad Tryz.prog f (sAtD [.agg (macL 0 h ss), I i] (.tup [.agg (macL 0 h1 ts), I e])) := oAtZ hg hc (ZiE hs e) (Zra _ _ _) rfl
theorem iZ {f : FuncId} {h h1 : Mh} {ss ts : List SesD} {i e : Int} (hg : Goes Tryz.prog f) (hc : CT Tryz.prog f [.agg (macL 0 h ss), I i] (macR h1 ts e)) (hs : smM h1 ts = true) : Zbl Tryz.prog f (Zfn Tryz.prog [34] (sAtD [.agg (macL 0 h ss), I i] (.tup [.agg (macL 1 h1 ts), I e]))) := Zd3 (oAtD hg hc (ZiE hs e) rfl)
theorem ZcQ {h : Mh} {ss : List SesD} (ho : okM h ss = true) (hl : ss.length ≤ 9223372036854775806) : Zdt [.agg (macL 0 h ss), .agg (macL 0 h ss)] := ⟨h, ss, ho, hl, .cons (.refl _) (.cons (.refl _) .nil)⟩
theorem Zjv {h : Mh} {ss : List SesD} (ho : okM h ss = true) (hl : ss.length ≤ 4) : spM [.agg (macL 1 h ss)] := ⟨h, ss, hl, ho, rfl⟩
theorem cSgA (h h1 : Mh) (ss ts : List SesD) (i e : Int) (hok : okM h ss = true) (hsm : smM h ss = true) (hb : ss.length * 184 ≤ 140737488351232) (hok1 : okM h1 ts = true) (hsm1 : smM h1 ts = true) (hl : ts.length ≤ 4) (hc : CT Tryz.prog 38 [.agg (macL 0 h ss), I i] (macR h1 ts e)) (hr : CT Tryz.prog 39 [.agg (macL 0 h ss), I i] (macR h1 ts e)) : CT Tryz.prog 14 [.agg (macL 0 h ss), I i] (B true) := by
  obtain ⟨g1, g2, g3⟩ := ZbP hok1
  obtain ⟨w0, w1, w2, w3⟩ := Zb2 g1
  have q := List.all_eq_true.1 g3
  have hbig : ss.length ≤ 9223372036854775806 := by omega
  have hs0 := ZcQ hok hbig
  have hH := fun (hz : Zad Tryz.prog 39 (sAtD [.agg (macL 0 h ss), I i] (.tup [.agg (macL 0 h1 ts), I e]))) (hi : Zbl Tryz.prog 38 (Zfn Tryz.prog [34] (sAtD [.agg (macL 0 h ss), I i] (.tup [.agg (macL 1 h1 ts), I e])))) => Zpy (g := fun f => Nat.beq f 28) (.cons (ZuZ hsm hb) (.cons hz (.cons ZvK (.cons oNum (.cons ZwG (.cons oSpM .nil)))))) (.cons hi .nil)
  have hH := hH (oZ ZuV hr hsm1) (iZ gSto hc hsm1)
  have hne : (e != e) = false := by simp
  rcases ts with _ | ⟨s0, _ | ⟨s1, _ | ⟨s2, _ | ⟨s3, _ | ⟨s4, l⟩⟩⟩⟩⟩
  · have hs1 := ZcQ (h := h1) (ss := []) hok1 (by simp)
    have hp1 := Zjv (h := h1) (ss := []) hok1 (by simp)
    refine ct_w hH mixed Zbs Tryz.func14 rfl rfl rfl ?_
    rw [eSg0]
    refine ⟨?_⟩
    simp only [lX_t, Zo0, ZpD, cC_e, cD_e, tC_e, tD_e, kX_t (Zaa w0), aX_t (Zaa w0), kX_t (Zaa w1), aX_t (Zaa w1), kX_t (Zaa w2), aX_t (Zaa w2), kX_t (Zaa w3), aX_t (Zaa w3), kX_t (Zaa g2), aX_t (Zaa g2), Bool.and_self, cond_true, cond_false, hne, true_and]
    exact ⟨hs1, hp1, hs0, AL.refl _⟩
  · have k0 := q s0 (by simp)
    obtain ⟨p0, r0, u0⟩ := ZaV k0
    have hs1 := ZcQ (h := h1) (ss := [s0]) hok1 (by simp)
    have hp1 := Zjv (h := h1) (ss := [s0]) hok1 (by simp)
    refine ct_w hH mixed Zbs Tryz.func14 rfl rfl rfl ?_
    rw [eSg1]
    refine ⟨?_⟩
    simp only [lX_t, Zo0, ZpD, cC_e, cD_e, tC_e, tD_e, kX_t (Zaa w0), aX_t (Zaa w0), kX_t (Zaa w1), aX_t (Zaa w1), kX_t (Zaa w2), aX_t (Zaa w2), kX_t (Zaa w3), aX_t (Zaa w3), kX_t (Zaa g2), aX_t (Zaa g2), kX_t (Zaa p0), aX_t (Zaa p0), kX_t (Zaa r0), aX_t (Zaa r0), kX_t (Zaa u0), aX_t (Zaa u0), Bool.and_self, cond_true, cond_false, hne, true_and]
    exact ⟨hs1, hp1, hs0, AL.refl _⟩
  · have k0 := q s0 (by simp)
    obtain ⟨p0, r0, u0⟩ := ZaV k0
    have k1 := q s1 (by simp)
    obtain ⟨p1, r1, u1⟩ := ZaV k1
    have hs1 := ZcQ (h := h1) (ss := [s0, s1]) hok1 (by simp)
    have hp1 := Zjv (h := h1) (ss := [s0, s1]) hok1 (by simp)
    refine ct_w hH mixed Zbs Tryz.func14 rfl rfl rfl ?_
    rw [eSg2]
    refine ⟨?_⟩
    simp only [lX_t, Zo0, ZpD, cC_e, cD_e, tC_e, tD_e, kX_t (Zaa w0), aX_t (Zaa w0), kX_t (Zaa w1), aX_t (Zaa w1), kX_t (Zaa w2), aX_t (Zaa w2), kX_t (Zaa w3), aX_t (Zaa w3), kX_t (Zaa g2), aX_t (Zaa g2), kX_t (Zaa p0), aX_t (Zaa p0), kX_t (Zaa r0), aX_t (Zaa r0), kX_t (Zaa u0), aX_t (Zaa u0), kX_t (Zaa p1), aX_t (Zaa p1), kX_t (Zaa r1), aX_t (Zaa r1), kX_t (Zaa u1), aX_t (Zaa u1), Bool.and_self, cond_true, cond_false, hne, true_and]
    exact ⟨hs1, hp1, hs0, AL.refl _⟩
  · have k0 := q s0 (by simp)
    obtain ⟨p0, r0, u0⟩ := ZaV k0
    have k1 := q s1 (by simp)
    obtain ⟨p1, r1, u1⟩ := ZaV k1
    have k2 := q s2 (by simp)
    obtain ⟨p2, r2, u2⟩ := ZaV k2
    have hs1 := ZcQ (h := h1) (ss := [s0, s1, s2]) hok1 (by simp)
    have hp1 := Zjv (h := h1) (ss := [s0, s1, s2]) hok1 (by simp)
    refine ct_w hH mixed Zbs Tryz.func14 rfl rfl rfl ?_
    rw [eSg3]
    refine ⟨?_⟩
    simp only [lX_t, Zo0, ZpD, cC_e, cD_e, tC_e, tD_e, kX_t (Zaa w0), aX_t (Zaa w0), kX_t (Zaa w1), aX_t (Zaa w1), kX_t (Zaa w2), aX_t (Zaa w2), kX_t (Zaa w3), aX_t (Zaa w3), kX_t (Zaa g2), aX_t (Zaa g2), kX_t (Zaa p0), aX_t (Zaa p0), kX_t (Zaa r0), aX_t (Zaa r0), kX_t (Zaa u0), aX_t (Zaa u0), kX_t (Zaa p1), aX_t (Zaa p1), kX_t (Zaa r1), aX_t (Zaa r1), kX_t (Zaa u1), aX_t (Zaa u1), kX_t (Zaa p2), aX_t (Zaa p2), kX_t (Zaa r2), aX_t (Zaa r2), kX_t (Zaa u2), aX_t (Zaa u2), Bool.and_self, cond_true, cond_false, hne, true_and]
    exact ⟨hs1, hp1, hs0, AL.refl _⟩
  · have k0 := q s0 (by simp)
    obtain ⟨p0, r0, u0⟩ := ZaV k0
    have k1 := q s1 (by simp)
    obtain ⟨p1, r1, u1⟩ := ZaV k1
    have k2 := q s2 (by simp)
    obtain ⟨p2, r2, u2⟩ := ZaV k2
    have k3 := q s3 (by simp)
    obtain ⟨p3, r3, u3⟩ := ZaV k3
    have hs1 := ZcQ (h := h1) (ss := [s0, s1, s2, s3]) hok1 (by simp)
    have hp1 := Zjv (h := h1) (ss := [s0, s1, s2, s3]) hok1 (by simp)
    refine ct_w hH mixed Zbs Tryz.func14 rfl rfl rfl ?_
    rw [eSg4]
    refine ⟨?_⟩
    simp only [lX_t, Zo0, ZpD, cC_e, cD_e, tC_e, tD_e, kX_t (Zaa w0), aX_t (Zaa w0), kX_t (Zaa w1), aX_t (Zaa w1), kX_t (Zaa w2), aX_t (Zaa w2), kX_t (Zaa w3), aX_t (Zaa w3), kX_t (Zaa g2), aX_t (Zaa g2), kX_t (Zaa p0), aX_t (Zaa p0), kX_t (Zaa r0), aX_t (Zaa r0), kX_t (Zaa u0), aX_t (Zaa u0), kX_t (Zaa p1), aX_t (Zaa p1), kX_t (Zaa r1), aX_t (Zaa r1), kX_t (Zaa u1), aX_t (Zaa u1), kX_t (Zaa p2), aX_t (Zaa p2), kX_t (Zaa r2), aX_t (Zaa r2), kX_t (Zaa u2), aX_t (Zaa u2), kX_t (Zaa p3), aX_t (Zaa p3), kX_t (Zaa r3), aX_t (Zaa r3), kX_t (Zaa u3), aX_t (Zaa u3), Bool.and_self, cond_true, cond_false, hne, true_and]
    exact ⟨hs1, hp1, hs0, AL.refl _⟩
  · simp at hl
theorem cSg (h : Mh) (ss : List SesD) (i : Int) (hok : okM h ss = true) (hsm : smM h ss = true) (hb : ss.length * 184 ≤ 140737488351232) : CT Tryz.prog 14 [.agg (macL 0 h ss), I i] (B true) := by
  have hc := cSto h ss i hok
  have hr := Zv8 h ss i hok
  cases hm : mAt (has1 3) h ss i with
  | false =>
    simp only [hm, cond_false] at hc hr
    exact cSgA h h0 ss [] i 1600 hok hsm hb rfl rfl (by decide) hc hr
  | true =>
    obtain ⟨s, f, hst, hp0, hp1, hp2, hcode⟩ := Zi0 hok hm
    simp only [hm, f.getD, cond_true] at hc hr
    have hsm1 : smM (ZbO h s) (ss.set i.toNat (Zcr s)) = true := Zo5 (ZrG (h' := ZbO h s) f.sm (ZjO _ _).1 (ZjO _ _).2.1 (ZjO _ _).2.2.1 (ZjO _ _).2.2.2 (ZmD f.smtr f.tl _ _ _ _)) _ (Zkm f.smS f.wtl)
    have hok1 : okM (ZbO h s) (ss.set i.toNat (Zcr s)) = true := by
      obtain ⟨a, b, c⟩ := ZbP hok
      have e : okM (ZbO h s) (ss.set i.toNat (Zcr s)) = (okA h.w0 h.w1 h.w2 h.w3 && (okZ 4 (ZbO h s).tr && okSS (ss.set i.toNat (Zcr s)))) := rfl
      rw [e, a, show okZ 4 (ZbO h s).tr = true from Zqo b f.tl _ _ _ _, Zqd c (Zui f.ok f.wtl)]; rfl
    exact cSgA h _ ss _ i 0 hok hsm hb hok1 hsm1 (by rw [List.length_set]; exact f.len) hc hr
theorem cSgg (xs : List D) (i : Int) (g : GoodL kMac xs) : CT Tryz.prog 14 [.agg xs, I i] (B true) := by
  obtain ⟨h, ss, rfl, ho, hs, hb⟩ := ZvB g
  exact cSg h ss i ho hs hb
end

end Vm
