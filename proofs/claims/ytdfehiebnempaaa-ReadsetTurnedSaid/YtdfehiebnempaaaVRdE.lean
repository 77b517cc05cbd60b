/- What the functions of this text do, told by an interpreter that is proved right (YtdfehiebnempaaaVA to VD). My own work. -/
import Derived.Test.YtdfehiebnempaaaVRdD
namespace Vm
open Go Go.Proofs
set_option linter.unusedSimpArgs false
set_option linter.unusedVariables false
set_option maxRecDepth 100000
/-! ### reads: the contracts -/
theorem pureI (z : Nat) (l : List (List Int)) (n : Int) : (DV.tup [oS z (mZ l) [], I n]).pureOwn = true := by simp [DV.pureOwn, DV.pureOwn.go, D.pureOwn, ownLL_mZ, ownLL]
theorem pureB (z : Nat) (l : List (List Int)) (n : Bool) : (DV.tup [oS z (mZ l) [], B n]).pureOwn = true := by simp [DV.pureOwn, DV.pureOwn.go, D.pureOwn, ownLL_mZ, ownLL]
def pe9 (b : Bool) : Int := bif b then 0 else 900
def wOk (l : List (List Int)) (a b c : Int) : Bool := rmay l && (rmay [[a, b, c]] && (l.any (sameW a b c) || !(decide (l.length = 16))))
def wl (l : List (List Int)) (a b c : Int) : List (List Int) := bif wOk l a b c then bif l.any (sameW a b c) then l else l ++ [[a, b, c]] else []
def gdOk (a b c d l : List (List Int)) (id : Int) : Bool := gets a b c d l && idm id
def gd (a b c d l : List (List Int)) (id : Int) : Bool := gdOk a b c d l id && !l.any (badG a b c d id)
def cv (a b c d l : List (List Int)) : Bool := gets a b c d l && l.any (badC a b c d)
def gWo (a b c d l : List (List Int)) (sp p0 p1 p2 p3 : List (List D)) : LSum := fun Q x => cond (decide (l.length ≤ 16)) (fWo a b c d l sp p0 p1 p2 p3 Q x) False
def gCr (a b c d l : List (List Int)) (sp p0 p1 p2 p3 : List (List D)) : LSum := fun Q x => cond (l.all (thv a b c d)) (fCr a b c d l sp p0 p1 p2 p3 Q x) False
def gGr (a b c d l : List (List Int)) (sp p0 p1 p2 p3 : List (List D)) (id : Int) : LSum := fun Q x => cond (l.all (thv a b c d)) (fGr a b c d l sp p0 p1 p2 p3 id Q x) False
def gCh (R0 R1 R2 R3 R sp : List (List D)) : LSum := fun Q x => cond (okA R0 R1 R2 R3 && okZ 3 R && gets (toZ R0) (toZ R1) (toZ R2) (toZ R3) (toZ R)) (findS [1, 4, 5, 17, 18, 19] [13000] (fun i => stCh R sp (mZ (gotW (toZ R0) (toZ R1) (toZ R2) (toZ R3) (toZ R))) false 0 i) (fun i => stCh R sp (mZ (gotW (toZ R0) (toZ R1) (toZ R2) (toZ R3) (toZ R))) true 0 i) (toZ R).length (fun i => badC (toZ R0) (toZ R1) (toZ R2) (toZ R3) ((toZ R).getD i [])) .ret (.exit 0) Q x) False
def gGo (R0 R1 R2 R3 R sp : List (List D)) (id : Int) : LSum := fun Q x => cond (okA R0 R1 R2 R3 && okZ 3 R && gets (toZ R0) (toZ R1) (toZ R2) (toZ R3) (toZ R)) (findS [1, 2, 6, 7, 24, 25, 26] [15000] (fun i => stGo R sp (mZ (gotW (toZ R0) (toZ R1) (toZ R2) (toZ R3) (toZ R))) id false 0 i) (fun i => stGo R sp (mZ (gotW (toZ R0) (toZ R1) (toZ R2) (toZ R3) (toZ R))) id false 0 i) (toZ R).length (fun i => badG (toZ R0) (toZ R1) (toZ R2) (toZ R3) id ((toZ R).getD i [])) .ret (.exit 0) Q x) False
theorem eWith (l : List (List Int)) (sp : List (List D)) (a b c : Int) (K : DV → Prop) : (askL Try.prog [(40, sRM), (70, sCloneReads), (72, sOf), (71, sCoR)] [] Try.f33 [dS 3 (mZ l) sp, .agg [vi a, vi b, vi c]] K) = (bif okZ (3) (mZ l) then bif !rmay (toZ (mZ l)) then K (DV.tup [DV.c (D.s (1) (3) [] []), DV.c (D.v (Value.int IntKind.i64 (900)))]) else bif !rmay (toZ [[D.v (Value.int IntKind.i64 a), D.v (Value.int IntKind.i64 b), D.v (Value.int IntKind.i64 c)]]) then K (DV.tup [DV.c (D.s (1) (3) [] []), DV.c (D.v (Value.int IntKind.i64 (900)))]) else bif allV (mZ l) && decide (List.length (mZ l) ≤ 5864062014635) then bif okZ (3) (mZ l) then bif List.any (toZ (mZ l)) (sameW a b c) then bif decide (List.length (mZ l) ≤ List.length (mZ l ++ [])) && List.all (mZ l ++ []) fun r => List.all r D.keeps then K (DV.tup [DV.c (D.s (1) (3) (List.take (List.length (mZ l)) (mZ l ++ [])) (List.take (List.length (mZ l) + 0 - List.length (mZ l)) (List.drop (List.length (mZ l)) (mZ l ++ [])))), DV.c (D.v (Value.int IntKind.i64 (0)))]) else False else bif @Nat.cast Int _ (List.length (mZ l)) == 16 then K (DV.tup [DV.c (D.s (1) (3) [] []), DV.c (D.v (Value.int IntKind.i64 (900)))]) else bif decide (List.length (mZ l) ≤ List.length (mZ l ++ [])) && (decide ((List.length (mZ l) + 1) * 24 ≤ 140737488355328) && decide (List.length (mZ l) + 1 ≤ 9223372036854775807)) then bif decide (List.length (mZ l) + 1 ≤ List.length (List.take (List.length (mZ l)) (mZ l ++ []) ++ [[D.v (Value.int IntKind.i64 a), D.v (Value.int IntKind.i64 b), D.v (Value.int IntKind.i64 c)]])) && List.all (List.take (List.length (mZ l)) (mZ l ++ []) ++ [[D.v (Value.int IntKind.i64 a), D.v (Value.int IntKind.i64 b), D.v (Value.int IntKind.i64 c)]]) fun r => List.all r D.keeps then K (DV.tup [DV.c (D.s (1) (3) (List.take (List.length (mZ l) + 1) (List.take (List.length (mZ l)) (mZ l ++ []) ++ [[D.v (Value.int IntKind.i64 a), D.v (Value.int IntKind.i64 b), D.v (Value.int IntKind.i64 c)]])) (List.take (List.length (mZ l) + 1 - (List.length (mZ l) + 1)) (List.drop (List.length (mZ l) + 1) (List.take (List.length (mZ l)) (mZ l ++ []) ++ [[D.v (Value.int IntKind.i64 a), D.v (Value.int IntKind.i64 b), D.v (Value.int IntKind.i64 c)]])))), DV.c (D.v (Value.int IntKind.i64 (0)))]) else False else False else False else False else False) := by kernel_rfl
theorem eWR (l : List (List Int)) (sp : List (List D)) (a b c : Int) (K : DV → Prop) : (askL Try.prog [(41, sRM)] [(5, fWR l sp a b c)] Try.f34 [dS 3 (mZ l) sp, .agg [vi a, vi b, vi c]] K) = (bif okZ (3) (mZ l) then bif !rmay (toZ (mZ l)) then K (DV.tup [DV.c (D.s (1) (3) [] []), DV.c (D.v (Value.int IntKind.i64 (900)))]) else bif !rmay (toZ [[D.v (Value.int IntKind.i64 a), D.v (Value.int IntKind.i64 b), D.v (Value.int IntKind.i64 c)]]) then K (DV.tup [DV.c (D.s (1) (3) [] []), DV.c (D.v (Value.int IntKind.i64 (900)))]) else bif allV (mZ l) then bif true && (decide ((0 + List.length (mZ l)) * 24 ≤ 140737488355328) && decide (0 + List.length (mZ l) ≤ 9223372036854775807)) then stWR (mZ l) sp a b c (0) = stWR (mZ l) sp a b c (0) ∧ (∀ (i : Nat), firstAt (fun i => sameW a b c (List.getD l i [])) (List.length l) i → bif decide (0 + List.length (mZ l) ≤ List.length ([] ++ mZ l)) && List.all ([] ++ mZ l) fun r => List.all r D.keeps then K (DV.tup [DV.c (D.s (1) (3) (List.take (0 + List.length (mZ l)) ([] ++ mZ l)) (List.take (0 + List.length (mZ l) - (0 + List.length (mZ l))) (List.drop (0 + List.length (mZ l)) ([] ++ mZ l)))), DV.c (D.v (Value.int IntKind.i64 (0)))]) else False) ∧ (noneTo (fun i => sameW a b c (List.getD l i [])) (List.length l) → bif decide (0 + List.length (mZ l) ≤ List.length ([] ++ mZ l)) && (decide ((0 + List.length (mZ l) + 1) * 24 ≤ 140737488355328) && decide (0 + List.length (mZ l) + 1 ≤ 9223372036854775807)) then bif decide (@Nat.cast Int _ (0 + List.length (mZ l) + 1) > 16) then K (DV.tup [DV.c (D.s (1) (3) [] []), DV.c (D.v (Value.int IntKind.i64 (900)))]) else bif decide (0 + List.length (mZ l) + 1 ≤ List.length (List.take (0 + List.length (mZ l)) ([] ++ mZ l) ++ [[D.v (Value.int IntKind.i64 a), D.v (Value.int IntKind.i64 b), D.v (Value.int IntKind.i64 c)]])) && List.all (List.take (0 + List.length (mZ l)) ([] ++ mZ l) ++ [[D.v (Value.int IntKind.i64 a), D.v (Value.int IntKind.i64 b), D.v (Value.int IntKind.i64 c)]]) fun r => List.all r D.keeps then K (DV.tup [DV.c (D.s (1) (3) (List.take (0 + List.length (mZ l) + 1) (List.take (0 + List.length (mZ l)) ([] ++ mZ l) ++ [[D.v (Value.int IntKind.i64 a), D.v (Value.int IntKind.i64 b), D.v (Value.int IntKind.i64 c)]])) (List.take (0 + List.length (mZ l) + 1 - (0 + List.length (mZ l) + 1)) (List.drop (0 + List.length (mZ l) + 1) (List.take (0 + List.length (mZ l)) ([] ++ mZ l) ++ [[D.v (Value.int IntKind.i64 a), D.v (Value.int IntKind.i64 b), D.v (Value.int IntKind.i64 c)]])))), DV.c (D.v (Value.int IntKind.i64 (0)))]) else False else False) else False else False else False) := by kernel_rfl
theorem gok {a b c d l : List (List Int)} (h : gets a b c d l = true) : l.all (thv a b c d) = true ∧ gotW a b c d l = l.map (wdv a b c d) := by
  refine ⟨?_, by rw [gotW, h]; rfl⟩
  unfold gets at h; simp only [Bool.and_eq_true] at h; exact h.2.2
theorem lCh {R0 R1 R2 R3 R sp : List (List D)} (Q : Exit → X → Prop) (x : X) (h : gCh R0 R1 R2 R3 R sp Q x) : XWP Try.prog (.loop (bodyL Try.f37 0)) Q x := by
  obtain ⟨h1, h⟩ := cond_P h
  rw [Bool.and_eq_true] at h1
  obtain ⟨h1, hg⟩ := h1
  obtain ⟨⟨_, a2, _, b2, _, c2, _, d2⟩, e1, e2, e3⟩ := s4 h1
  rw [e1] at h
  rw [toZ_mZ] at h
  generalize toZ R0 = a at *
  generalize toZ R1 = b at *
  generalize toZ R2 = c at *
  generalize toZ R3 = d at *
  generalize toZ R = l at *
  obtain ⟨g1, g2⟩ := gok hg
  rw [g2] at h
  exact kCh a2 b2 c2 d2 e2 e3 g1 Q x h
theorem lGo {R0 R1 R2 R3 R sp : List (List D)} {id : Int} (Q : Exit → X → Prop) (x : X) (h : gGo R0 R1 R2 R3 R sp id Q x) : XWP Try.prog (.loop (bodyL Try.f35 0)) Q x := by
  obtain ⟨h1, h⟩ := cond_P h
  rw [Bool.and_eq_true] at h1
  obtain ⟨h1, hg⟩ := h1
  obtain ⟨⟨_, a2, _, b2, _, c2, _, d2⟩, e1, e2, e3⟩ := s4 h1
  rw [e1] at h
  rw [toZ_mZ] at h
  generalize toZ R0 = a at *
  generalize toZ R1 = b at *
  generalize toZ R2 = c at *
  generalize toZ R3 = d at *
  generalize toZ R = l at *
  obtain ⟨g1, g2⟩ := gok hg
  rw [g2] at h
  exact kGo a2 b2 c2 d2 e2 e3 g1 id Q x h
theorem lWo {a b c d l : List (List Int)} {sp p0 p1 p2 p3 : List (List D)} (ha : wid 3 a) (hb : wid 3 b) (hc : wid 3 c) (hd : wid 3 d) (hw : wid 3 l) (hn : l.length ≤ 9223372036854775807) (Q : Exit → X → Prop) (x : X) (h : gWo a b c d l sp p0 p1 p2 p3 Q x) : XWP Try.prog (.loop (bodyL Try.f73 0)) Q x := by
  obtain ⟨h1, h⟩ := cond_P h
  exact kWo ha hb hc hd hw hn (of_decide_eq_true h1) Q x h
theorem lCr {a b c d l : List (List Int)} {sp p0 p1 p2 p3 : List (List D)} (ha : wid 3 a) (hb : wid 3 b) (hc : wid 3 c) (hd : wid 3 d) (hw : wid 3 l) (hn : l.length ≤ 9223372036854775807) (Q : Exit → X → Prop) (x : X) (h : gCr a b c d l sp p0 p1 p2 p3 Q x) : XWP Try.prog (.loop (bodyL Try.f38 0)) Q x := by
  obtain ⟨h1, h⟩ := cond_P h
  exact kCr ha hb hc hd hw hn h1 Q x h
theorem lGr {a b c d l : List (List Int)} {sp p0 p1 p2 p3 : List (List D)} {id : Int} (ha : wid 3 a) (hb : wid 3 b) (hc : wid 3 c) (hd : wid 3 d) (hw : wid 3 l) (hn : l.length ≤ 9223372036854775807) (Q : Exit → X → Prop) (x : X) (h : gGr a b c d l sp p0 p1 p2 p3 id Q x) : XWP Try.prog (.loop (bodyL Try.f36 0)) Q x := by
  obtain ⟨h1, h⟩ := cond_P h
  exact kGr ha hb hc hd hw hn id h1 Q x h
theorem eGo (R0 p0 R1 p1 R2 p2 R3 p3 R sp : List (List D)) (id : Int) (K : DV → Prop) : (askL Try.prog [(73, sWo), (74, sB idm)] [(5, gGo R0 R1 R2 R3 R sp id)] Try.f35 [dA R0 p0 R1 p1 R2 p2 R3 p3, dS 3 R sp, I id] K) = (bif okA R0 R1 R2 R3 && okZ (3) R then bif !gets (toZ R0) (toZ R1) (toZ R2) (toZ R3) (toZ R) then K (DV.tup [DV.c (D.v (Value.bool false)), DV.c (D.v (Value.int IntKind.i64 (900)))]) else bif !idm id then K (DV.tup [DV.c (D.v (Value.bool false)), DV.c (D.v (Value.int IntKind.i64 (900)))]) else bif okA R0 R1 R2 R3 && okZ (3) R && gets (toZ R0) (toZ R1) (toZ R2) (toZ R3) (toZ R) then stGo R sp (mZ (gotW (toZ R0) (toZ R1) (toZ R2) (toZ R3) (toZ R))) id false (0) (0) = stGo R sp (mZ (gotW (toZ R0) (toZ R1) (toZ R2) (toZ R3) (toZ R))) id false (0) (0) ∧ (∀ (i : Nat), firstAt (fun i => badG (toZ R0) (toZ R1) (toZ R2) (toZ R3) id (List.getD (toZ R) i [])) (List.length (toZ R)) i → K (DV.tup [DV.c (D.v (Value.bool false)), DV.c (D.v (Value.int IntKind.i64 (0)))])) ∧ (noneTo (fun i => badG (toZ R0) (toZ R1) (toZ R2) (toZ R3) id (List.getD (toZ R) i [])) (List.length (toZ R)) → K (DV.tup [DV.c (D.v (Value.bool true)), DV.c (D.v (Value.int IntKind.i64 (0)))])) else False else False) := by kernel_rfl
theorem eCh (R0 p0 R1 p1 R2 p2 R3 p3 R sp : List (List D)) (K : DV → Prop) : (askL Try.prog [(73, sWo)] [(5, gCh R0 R1 R2 R3 R sp)] Try.f37 [dA R0 p0 R1 p1 R2 p2 R3 p3, dS 3 R sp] K) = (bif okA R0 R1 R2 R3 && okZ (3) R then bif !gets (toZ R0) (toZ R1) (toZ R2) (toZ R3) (toZ R) then K (DV.tup [DV.c (D.v (Value.bool false)), DV.c (D.v (Value.int IntKind.i64 (900)))]) else bif okA R0 R1 R2 R3 && okZ (3) R && gets (toZ R0) (toZ R1) (toZ R2) (toZ R3) (toZ R) then stCh R sp (mZ (gotW (toZ R0) (toZ R1) (toZ R2) (toZ R3) (toZ R))) false (0) (0) = stCh R sp (mZ (gotW (toZ R0) (toZ R1) (toZ R2) (toZ R3) (toZ R))) false (0) (0) ∧ (∀ (i : Nat), firstAt (fun i => badC (toZ R0) (toZ R1) (toZ R2) (toZ R3) (List.getD (toZ R) i [])) (List.length (toZ R)) i → K (DV.tup [DV.c (D.v (Value.bool true)), DV.c (D.v (Value.int IntKind.i64 (0)))])) ∧ (noneTo (fun i => badC (toZ R0) (toZ R1) (toZ R2) (toZ R3) (List.getD (toZ R) i [])) (List.length (toZ R)) → K (DV.tup [DV.c (D.v (Value.bool false)), DV.c (D.v (Value.int IntKind.i64 (0)))])) else False else False) := by kernel_rfl
theorem eWo (a b c d l : List (List Int)) (sp p0 p1 p2 p3 : List (List D)) (K : DV → Prop) : (askL Try.prog [(40, sRM), (28, sAMay)] [(5, gWo a b c d l sp p0 p1 p2 p3)] Try.f73 [.c (.p 0 [.s 0 3 (mZ a) p0, .s 0 3 (mZ b) p1, .s 0 3 (mZ c) p2, .s 0 3 (mZ d) p3] 0), dS 3 (mZ l) sp] K) = (bif okA (mZ a) (mZ b) (mZ c) (mZ d) then bif !amay (toZ (mZ a)) (toZ (mZ b)) (toZ (mZ c)) (toZ (mZ d)) then K (DV.tup [DV.c (D.s (1) (3) [] []), DV.c (D.v (Value.bool false))]) else bif okZ (3) (mZ l) then bif !rmay (toZ (mZ l)) then K (DV.tup [DV.c (D.s (1) (3) [] []), DV.c (D.v (Value.bool false))]) else bif decide (List.length l ≤ 16) then stWo (mZ a) p0 (mZ b) p1 (mZ c) p2 (mZ d) p3 (mZ l) sp false (0) (0) (0) (mZ []) = stWo (mZ a) p0 (mZ b) p1 (mZ c) p2 (mZ d) p3 (mZ l) sp false (0) (0) (0) (mZ []) ∧ (∀ (i : Nat), firstAt (fun i => !thv a b c d (List.getD l i [])) (List.length l) i → K (DV.tup [DV.c (D.s (1) (3) [] []), DV.c (D.v (Value.bool false))])) ∧ (noneTo (fun i => !thv a b c d (List.getD l i [])) (List.length l) → bif decide (List.length l ≤ List.length (mZ (List.map (wdv a b c d) (List.take (List.length l) l)))) && List.all (mZ (List.map (wdv a b c d) (List.take (List.length l) l))) fun r => List.all r D.keeps then K (DV.tup [DV.c (D.s (1) (3) (List.take (List.length l) (mZ (List.map (wdv a b c d) (List.take (List.length l) l)))) (List.take (List.length l - List.length l) (List.drop (List.length l) (mZ (List.map (wdv a b c d) (List.take (List.length l) l)))))), DV.c (D.v (Value.bool true))]) else False) else False else False else False) := by kernel_rfl
theorem eCr (a b c d l : List (List Int)) (sp p0 p1 p2 p3 : List (List D)) (K : DV → Prop) : (askL Try.prog [(41, sRM), (29, sAMay), (76, sRT)] [(4, gCr a b c d l sp p0 p1 p2 p3)] Try.f38 [dA (mZ a) p0 (mZ b) p1 (mZ c) p2 (mZ d) p3, dS 3 (mZ l) sp] K) = (bif okA (mZ a) (mZ b) (mZ c) (mZ d) then bif !amay (toZ (mZ a)) (toZ (mZ b)) (toZ (mZ c)) (toZ (mZ d)) then K (DV.tup [DV.c (D.v (Value.bool false)), DV.c (D.v (Value.int IntKind.i64 (900)))]) else bif okZ (3) (mZ l) then bif !rmay (toZ (mZ l)) then K (DV.tup [DV.c (D.v (Value.bool false)), DV.c (D.v (Value.int IntKind.i64 (900)))]) else bif okA (mZ a) (mZ b) (mZ c) (mZ d) && okZ (3) (mZ l) then bif !List.all (toZ (mZ l)) (thv (toZ (mZ a)) (toZ (mZ b)) (toZ (mZ c)) (toZ (mZ d))) then K (DV.tup [DV.c (D.v (Value.bool false)), DV.c (D.v (Value.int IntKind.i64 (900)))]) else bif List.all l (thv a b c d) then stCr (mZ a) p0 (mZ b) p1 (mZ c) p2 (mZ d) p3 (mZ l) sp false (0) (0) = stCr (mZ a) p0 (mZ b) p1 (mZ c) p2 (mZ d) p3 (mZ l) sp false (0) (0) ∧ (∀ (i : Nat), firstAt (fun i => badC a b c d (List.getD l i [])) (List.length l) i → K (DV.tup [DV.c (D.v (Value.bool true)), DV.c (D.v (Value.int IntKind.i64 (0)))])) ∧ (noneTo (fun i => badC a b c d (List.getD l i [])) (List.length l) → K (DV.tup [DV.c (D.v (Value.bool false)), DV.c (D.v (Value.int IntKind.i64 (0)))])) else False else False else False else False) := by kernel_rfl
theorem eGr (a b c d l : List (List Int)) (sp p0 p1 p2 p3 : List (List D)) (id : Int) (K : DV → Prop) : (askL Try.prog [(41, sRM), (29, sAMay), (75, sB idm), (76, sRT)] [(4, gGr a b c d l sp p0 p1 p2 p3 id)] Try.f36 [dA (mZ a) p0 (mZ b) p1 (mZ c) p2 (mZ d) p3, dS 3 (mZ l) sp, I id] K) = (bif okA (mZ a) (mZ b) (mZ c) (mZ d) then bif !amay (toZ (mZ a)) (toZ (mZ b)) (toZ (mZ c)) (toZ (mZ d)) then K (DV.tup [DV.c (D.v (Value.bool false)), DV.c (D.v (Value.int IntKind.i64 (900)))]) else bif okZ (3) (mZ l) then bif !rmay (toZ (mZ l)) then K (DV.tup [DV.c (D.v (Value.bool false)), DV.c (D.v (Value.int IntKind.i64 (900)))]) else bif !idm id then K (DV.tup [DV.c (D.v (Value.bool false)), DV.c (D.v (Value.int IntKind.i64 (900)))]) else bif okA (mZ a) (mZ b) (mZ c) (mZ d) && okZ (3) (mZ l) then bif !List.all (toZ (mZ l)) (thv (toZ (mZ a)) (toZ (mZ b)) (toZ (mZ c)) (toZ (mZ d))) then K (DV.tup [DV.c (D.v (Value.bool false)), DV.c (D.v (Value.int IntKind.i64 (900)))]) else bif List.all l (thv a b c d) then stGr (mZ a) p0 (mZ b) p1 (mZ c) p2 (mZ d) p3 (mZ l) sp id false (0) (0) = stGr (mZ a) p0 (mZ b) p1 (mZ c) p2 (mZ d) p3 (mZ l) sp id false (0) (0) ∧ (∀ (i : Nat), firstAt (fun i => badG a b c d id (List.getD l i [])) (List.length l) i → K (DV.tup [DV.c (D.v (Value.bool false)), DV.c (D.v (Value.int IntKind.i64 (0)))])) ∧ (noneTo (fun i => badG a b c d id (List.getD l i [])) (List.length l) → K (DV.tup [DV.c (D.v (Value.bool true)), DV.c (D.v (Value.int IntKind.i64 (0)))])) else False else False else False else False) := by kernel_rfl
theorem all_not {l : List (List Int)} {p : List Int → Bool} (h : l.any (fun r => !p r) = true) : l.all p = false := by
  rw [List.all_eq_not_any_not, h]; rfl
theorem all_not' {l : List (List Int)} {p : List Int → Bool} (h : l.any (fun r => !p r) = false) : l.all p = true := by
  rw [List.all_eq_not_any_not, h]; rfl
theorem oRT : SpecOK Try.prog 76 sRT := o_of Try.func76 (by kernel_rfl) rfl fun ds Q h => by
  unfold sRT at h; split at h
  · rename_i R0 p0 R1 p1 R2 p2 R3 p3 R sp
    obtain ⟨h1, h2⟩ := cond_P h
    have hA := h1
    rw [Bool.and_eq_true] at hA
    obtain ⟨⟨a1, a2, b1, b2, c1, c2, d1, d2⟩, e1, e2, e3⟩ := s4 h1
    have hA' := hA
    rw [a1, b1, c1, d1, e1] at hA'
    rw [a1, b1, c1, d1, e1]
    generalize toZ R0 = a at *
    generalize toZ R1 = b at *
    generalize toZ R2 = c at *
    generalize toZ R3 = d at *
    generalize toZ R = l at *
    refine ⟨_, ct_askL (l := []) (m := [(2, fRT a b c d l sp p0 p1 p2 p3)]) .nil mixed (loops1 rfl (by kernel_rfl) (kRT a2 b2 c2 d2 e2 e3)) Try.func76 rfl rfl rfl ?_, rfl, rfl, h2⟩
    rw [eRT]
    refine ⟨by trivial, fun i hi => ?_, fun hn => ?_⟩
    · have := hi.any (l := l) (d := []) (p := fun r => !thv a b c d r)
      rw [all_not this]
    · have := hn.any (l := l) (d := []) (p := fun r => !thv a b c d r)
      rw [all_not' this]
  · exact h.elim
theorem oWo : SpecOK Try.prog 73 sWo := o_of Try.func73 (by kernel_rfl) rfl fun ds Q h => by
  unfold sWo at h; split at h
  · rename_i R0 p0 R1 p1 R2 p2 R3 p3 R sp
    obtain ⟨h1, h2⟩ := cond_P h
    have hA := h1
    rw [Bool.and_eq_true] at hA
    obtain ⟨⟨a1, a2, b1, b2, c1, c2, d1, d2⟩, e1, e2, e3⟩ := s4 h1
    have hA' := hA
    rw [a1, b1, c1, d1, e1] at hA'
    rw [a1, b1, c1, d1, e1]
    generalize toZ R0 = a at *
    generalize toZ R1 = b at *
    generalize toZ R2 = c at *
    generalize toZ R3 = d at *
    generalize toZ R = l at *
    refine ⟨_, ct_askL (l := [(40, sRM), (28, sAMay)]) (m := [(5, gWo a b c d l sp p0 p1 p2 p3)]) (.cons oRM (.cons oAMay .nil)) mixed (loops1 rfl (by kernel_rfl) (lWo a2 b2 c2 d2 e2 e3)) Try.func73 rfl rfl rfl ?_, pureB _ _ _, rfl, h2⟩
    rw [eWo]
    simp only [hA'.1, hA'.2, Bool.and_self, cond_true, toZ_mZ]
    cases hm : amay a b c d with
    | false => simp [gotW, gets, hm, mZ]
    | true =>
      cases hr : rmay l with
      | false => simp [gotW, gets, hm, hr, mZ]
      | true =>
        have h16 : l.length ≤ 16 := by unfold rmay at hr; simp only [Bool.and_eq_true] at hr; exact of_decide_eq_true hr.1
        simp only [Bool.not_true, cond_false, decide_eq_true h16, cond_true]
        refine ⟨by trivial, fun i hi => ?_, fun hn => ?_⟩
        · have := all_not (hi.any (l := l) (d := []) (p := fun r => !thv a b c d r))
          simp [gotW, gets, this, mZ]
        · have := all_not' (hn.any (l := l) (d := []) (p := fun r => !thv a b c d r))
          have hg : gets a b c d l = true := by simp [gets, hm, hr, this]
          have hwd := wid_wdv a2 b2 c2 d2 this
          have hall := allV_ok (okZ_mZ hwd (by rw [List.length_map]; exact e3))
          have hlm : (mZ (l.map (wdv a b c d))).length = l.length := by rw [mZ_len, List.length_map]
          simp only [List.take_length, hlm, Nat.le_refl, decide_true, keeps_of hall, Bool.and_self, cond_true, Nat.sub_self, List.take_zero, (gok hg).2, hg]
          rw [List.take_of_length_le (by rw [hlm]; exact Nat.le_refl _)]
  · exact h.elim
def sGd : Spec := fun ds Q => match ds with | [.agg [.s 0 3 R0 p0, .s 0 3 R1 p1, .s 0 3 R2 p2, .s 0 3 R3 p3], .c (.s 0 3 R sp), .c (.v (.int .i64 id))] => cond (okA R0 R1 R2 R3 && okZ 3 R) (Q (.tup [B (gd (toZ R0) (toZ R1) (toZ R2) (toZ R3) (toZ R) id), I (pe9 (gdOk (toZ R0) (toZ R1) (toZ R2) (toZ R3) (toZ R) id))])) False | _ => False
def sCv : Spec := fun ds Q => match ds with | [.agg [.s 0 3 R0 p0, .s 0 3 R1 p1, .s 0 3 R2 p2, .s 0 3 R3 p3], .c (.s 0 3 R sp)] => cond (okA R0 R1 R2 R3 && okZ 3 R) (Q (.tup [B (cv (toZ R0) (toZ R1) (toZ R2) (toZ R3) (toZ R)), I (pe9 (gets (toZ R0) (toZ R1) (toZ R2) (toZ R3) (toZ R)))])) False | _ => False
theorem oGr : SpecOK Try.prog 36 sGd := o_of Try.func36 (by kernel_rfl) rfl fun ds Q h => by
  unfold sGd at h; split at h
  · rename_i R0 p0 R1 p1 R2 p2 R3 p3 R sp id
    obtain ⟨h1, h2⟩ := cond_P h
    have hA := h1
    rw [Bool.and_eq_true] at hA
    obtain ⟨⟨a1, a2, b1, b2, c1, c2, d1, d2⟩, e1, e2, e3⟩ := s4 h1
    have hA' := hA
    rw [a1, b1, c1, d1, e1] at hA'
    rw [a1, b1, c1, d1, e1]
    generalize toZ R0 = a at *
    generalize toZ R1 = b at *
    generalize toZ R2 = c at *
    generalize toZ R3 = d at *
    generalize toZ R = l at *
    refine ⟨_, ct_askL (l := [(41, sRM), (29, sAMay), (75, sB idm), (76, sRT)]) (m := [(4, gGr a b c d l sp p0 p1 p2 p3 id)]) (.cons oQM (.cons oRAMay (.cons oRId (.cons oRT .nil)))) mixed (loops1 rfl (by kernel_rfl) (lGr a2 b2 c2 d2 e2 e3)) Try.func36 rfl rfl rfl ?_, rfl, rfl, h2⟩
    rw [eGr]
    simp only [hA'.1, hA'.2, Bool.and_self, cond_true, toZ_mZ]
    cases hm : amay a b c d <;> cases hr : rmay l <;> cases hi : idm id <;> cases ht : l.all (thv a b c d) <;> simp [gd, gdOk, gets, pe9, hm, hr, hi, ht]
    refine ⟨fun i hi => ?_, fun hn => ?_⟩
    · have := hi.any (l := l) (d := []) (p := badG a b c d id); simpa using this
    · have := hn.any (l := l) (d := []) (p := badG a b c d id); simpa using this
  · exact h.elim
theorem oCr : SpecOK Try.prog 38 sCv := o_of Try.func38 (by kernel_rfl) rfl fun ds Q h => by
  unfold sCv at h; split at h
  · rename_i R0 p0 R1 p1 R2 p2 R3 p3 R sp
    obtain ⟨h1, h2⟩ := cond_P h
    have hA := h1
    rw [Bool.and_eq_true] at hA
    obtain ⟨⟨a1, a2, b1, b2, c1, c2, d1, d2⟩, e1, e2, e3⟩ := s4 h1
    have hA' := hA
    rw [a1, b1, c1, d1, e1] at hA'
    rw [a1, b1, c1, d1, e1]
    generalize toZ R0 = a at *
    generalize toZ R1 = b at *
    generalize toZ R2 = c at *
    generalize toZ R3 = d at *
    generalize toZ R = l at *
    refine ⟨_, ct_askL (l := [(41, sRM), (29, sAMay), (76, sRT)]) (m := [(4, gCr a b c d l sp p0 p1 p2 p3)]) (.cons oQM (.cons oRAMay (.cons oRT .nil))) mixed (loops1 rfl (by kernel_rfl) (lCr a2 b2 c2 d2 e2 e3)) Try.func38 rfl rfl rfl ?_, rfl, rfl, h2⟩
    rw [eCr]
    simp only [hA'.1, hA'.2, Bool.and_self, cond_true, toZ_mZ]
    cases hm : amay a b c d <;> cases hr : rmay l <;> cases ht : l.all (thv a b c d) <;> simp [cv, gets, pe9, hm, hr, ht]
    refine ⟨fun i hi => ?_, fun hn => ?_⟩
    · have := hi.any (l := l) (d := []) (p := badC a b c d); simpa using this
    · have := hn.any (l := l) (d := []) (p := badC a b c d); simpa using this
  · exact h.elim
theorem oGo : SpecOK Try.prog 35 sGd := o_of Try.func35 (by kernel_rfl) rfl fun ds Q h => by
  unfold sGd at h; split at h
  · rename_i R0 p0 R1 p1 R2 p2 R3 p3 R sp id
    obtain ⟨h1, h2⟩ := cond_P h
    have hA := h1
    rw [Bool.and_eq_true] at hA
    obtain ⟨⟨a1, a2, b1, b2, c1, c2, d1, d2⟩, e1, e2, e3⟩ := s4 h1
    refine ⟨_, ct_askL (l := [(73, sWo), (74, sB idm)]) (m := [(5, gGo R0 R1 R2 R3 R sp id)]) (.cons oWo (.cons oId .nil)) mixed (loops1 rfl (by kernel_rfl) lGo) Try.func35 rfl rfl rfl ?_, rfl, rfl, h2⟩
    rw [eGo]
    simp only [hA.1, hA.2, Bool.and_self, cond_true, Bool.true_and]
    generalize toZ R0 = a at *
    generalize toZ R1 = b at *
    generalize toZ R2 = c at *
    generalize toZ R3 = d at *
    generalize toZ R = l at *
    cases hg : gets a b c d l <;> cases hi : idm id <;> simp [gd, gdOk, pe9, hg, hi]
    refine ⟨fun i hi => ?_, fun hn => ?_⟩
    · have := hi.any (l := l) (d := []) (p := badG a b c d id); simpa using this
    · have := hn.any (l := l) (d := []) (p := badG a b c d id); simpa using this
  · exact h.elim
theorem oCh : SpecOK Try.prog 37 sCv := o_of Try.func37 (by kernel_rfl) rfl fun ds Q h => by
  unfold sCv at h; split at h
  · rename_i R0 p0 R1 p1 R2 p2 R3 p3 R sp
    obtain ⟨h1, h2⟩ := cond_P h
    have hA := h1
    rw [Bool.and_eq_true] at hA
    obtain ⟨⟨a1, a2, b1, b2, c1, c2, d1, d2⟩, e1, e2, e3⟩ := s4 h1
    refine ⟨_, ct_askL (l := [(73, sWo)]) (m := [(5, gCh R0 R1 R2 R3 R sp)]) (.cons oWo .nil) mixed (loops1 rfl (by kernel_rfl) lCh) Try.func37 rfl rfl rfl ?_, rfl, rfl, h2⟩
    rw [eCh]
    simp only [hA.1, hA.2, Bool.and_self, cond_true, Bool.true_and]
    generalize toZ R0 = a at *
    generalize toZ R1 = b at *
    generalize toZ R2 = c at *
    generalize toZ R3 = d at *
    generalize toZ R = l at *
    cases hg : gets a b c d l <;> simp [cv, pe9, hg]
    refine ⟨fun i hi => ?_, fun hn => ?_⟩
    · have := hi.any (l := l) (d := []) (p := badC a b c d); simpa using this
    · have := hn.any (l := l) (d := []) (p := badC a b c d); simpa using this
  · exact h.elim
def sWith : Spec := fun ds Q => match ds with | [.c (.s 0 3 R sp), .agg [.v (.int .i64 a), .v (.int .i64 b), .v (.int .i64 c)]] => cond (okZ 3 R) (Q (.tup [oS 3 (mZ (wl (toZ R) a b c)) [], I (pe9 (wOk (toZ R) a b c))])) False | _ => False
theorem rmay16 {l : List (List Int)} (h : rmay l = true) : l.length ≤ 16 := by unfold rmay at h; simp only [Bool.and_eq_true] at h; exact of_decide_eq_true h.1
theorem toZ1 (a b c : Int) : toZ [[vI a, vI b, vI c]] = [[a, b, c]] := rfl
theorem mZ1 (a b c : Int) : [[vI a, vI b, vI c]] = mZ [[a, b, c]] := rfl
theorem wid_snoc {l : List (List Int)} (h : wid 3 l) (a b c : Int) : wid 3 (l ++ [[a, b, c]]) := by
  intro r hr
  rcases List.mem_append.1 hr with hr | hr
  · exact h r hr
  · rw [List.mem_singleton.1 hr]; rfl
theorem oWith : SpecOK Try.prog 33 sWith := o_of Try.func33 (by kernel_rfl) rfl fun ds Q h => by
  unfold sWith at h; split at h
  · rename_i R sp a b c
    obtain ⟨h1, h2⟩ := cond_P h
    obtain ⟨e1, w1, n1⟩ := okZ_spec h1
    have h1' := h1
    rw [e1] at h1'
    rw [e1]
    rw [← toZ_len R] at n1
    generalize toZ R = l at *
    refine ⟨_, ct_askL (l := [(40, sRM), (70, sCloneReads), (72, sOf), (71, sCoR)]) (m := []) (.cons oRM (.cons oCloneReads (.cons oOf (.cons oCoR .nil)))) mixed (loops_nil rfl) Try.func33 rfl rfl rfl ?_, pureI _ _ _, rfl, h2⟩
    rw [eWith]
    simp only [h1', cond_true, toZ_mZ, toZ1]
    cases hr : rmay l with
    | false => simp [wl, wOk, pe9, hr, mZ]
    | true =>
      cases hr2 : rmay [[a, b, c]] with
      | false => simp [wl, wOk, pe9, hr, hr2, mZ]
      | true =>
        have h16 := rmay16 hr
        have hv := allV_ok h1'
        have q1 : decide (l.length ≤ 5864062014635) = true := decide_eq_true (by omega)
        have q2 : decide ((l.length + 1) * 24 ≤ 140737488355328) = true := decide_eq_true (by omega)
        have q3 : decide (l.length + 1 ≤ 9223372036854775807) = true := decide_eq_true (by omega)
        have hv2 := allV_ok (okZ_mZ (wid_snoc w1 a b c) (by simp; omega))
        have hk2 := keeps_of hv2
        rw [← mZ_append] at hk2
        simp only [Bool.not_true, cond_false, hv, mZ_len, q1, q2, q3, Bool.and_self, cond_true, List.append_nil, Nat.le_refl, decide_true, keeps_of hv, Nat.add_zero, Nat.sub_self, List.take_zero]
        cases ha : l.any (sameW a b c) with
        | true =>
          simp only [cond_true]
          rw [List.take_of_length_le (by rw [mZ_len]; exact Nat.le_refl _)]
          simp [wl, wOk, pe9, hr, hr2, ha]
        | false =>
          simp only [cond_false]
          by_cases hl : l.length = 16
          · simp [wl, wOk, pe9, hr, hr2, ha, hl, mZ]
          · have : (((l.length : Nat) : Int) == 16) = false := by simp; omega
            rw [this, cond_false]
            rw [List.take_of_length_le (show (mZ l).length ≤ l.length by rw [mZ_len]; exact Nat.le_refl _), mZ1, mZ_append]
            rw [mZ_append] at hk2
            have q4 : decide (l.length + 1 ≤ (mZ (l ++ [[a, b, c]])).length) = true := decide_eq_true (by rw [mZ_len]; simp)
            rw [q4, hk2, Bool.and_self, cond_true, List.take_of_length_le (show (mZ (l ++ [[a, b, c]])).length ≤ l.length + 1 by rw [mZ_len]; simp)]
            simp [wl, wOk, pe9, hr, hr2, ha, hl]
  · exact h.elim
theorem oWR : SpecOK Try.prog 34 sWith := o_of Try.func34 (by kernel_rfl) rfl fun ds Q h => by
  unfold sWith at h; split at h
  · rename_i R sp a b c
    obtain ⟨h1, h2⟩ := cond_P h
    obtain ⟨e1, w1, n1⟩ := okZ_spec h1
    have h1' := h1
    rw [e1] at h1'
    rw [e1]
    rw [← toZ_len R] at n1
    generalize toZ R = l at *
    refine ⟨_, ct_askL (l := [(41, sRM)]) (m := [(5, fWR l sp a b c)]) (.cons oQM .nil) mixed (loops1 rfl (by kernel_rfl) (kWR a b c w1 n1)) Try.func34 rfl rfl rfl ?_, pureI _ _ _, rfl, h2⟩
    rw [eWR]
    simp only [h1', cond_true, toZ_mZ, toZ1]
    cases hr : rmay l with
    | false => simp [wl, wOk, pe9, hr, mZ]
    | true =>
      cases hr2 : rmay [[a, b, c]] with
      | false => simp [wl, wOk, pe9, hr, hr2, mZ]
      | true =>
        have h16 := rmay16 hr
        have hv := allV_ok h1'
        have q1 : decide (l.length * 24 ≤ 140737488355328) = true := decide_eq_true (by omega)
        have q0 : decide (l.length ≤ 9223372036854775807) = true := decide_eq_true (by omega)
        have q2 : decide ((l.length + 1) * 24 ≤ 140737488355328) = true := decide_eq_true (by omega)
        have q3 : decide (l.length + 1 ≤ 9223372036854775807) = true := decide_eq_true (by omega)
        have hv2 := allV_ok (okZ_mZ (wid_snoc w1 a b c) (by simp; omega))
        have hk2 := keeps_of hv2
        have hT : List.take l.length (mZ l) = mZ l := List.take_of_length_le (by rw [mZ_len]; exact Nat.le_refl _)
        simp only [Bool.not_true, cond_false, hv, mZ_len, q0, q1, q2, q3, Bool.and_self, cond_true, List.nil_append, Nat.zero_add, Nat.le_refl, decide_true, keeps_of hv, Nat.sub_self, List.take_zero, hT]
        refine ⟨by trivial, fun i hi => ?_, fun hn => ?_⟩
        · have := hi.any (l := l) (d := []) (p := sameW a b c)
          simp [wl, wOk, pe9, hr, hr2, this]
        · have ha := hn.any (l := l) (d := []) (p := sameW a b c)
          by_cases hl : l.length = 16
          · have : decide (((l.length + 1 : Nat) : Int) > 16) = true := decide_eq_true (by omega)
            rw [this]
            simp [wl, wOk, pe9, hr, hr2, ha, hl, mZ]
          · have : decide (((l.length + 1 : Nat) : Int) > 16) = false := decide_eq_false (by omega)
            rw [this, cond_false, mZ1, mZ_append]
            have q4 : decide (l.length + 1 ≤ (mZ (l ++ [[a, b, c]])).length) = true := decide_eq_true (by rw [mZ_len]; simp)
            rw [q4, hk2, Bool.and_self, cond_true, List.take_of_length_le (show (mZ (l ++ [[a, b, c]])).length ≤ l.length + 1 by rw [mZ_len]; simp)]
            simp [wl, wOk, pe9, hr, hr2, ha, hl]
  · exact h.elim
end Vm