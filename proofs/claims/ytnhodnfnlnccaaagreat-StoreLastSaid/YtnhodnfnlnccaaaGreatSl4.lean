/- An interpreter for Go's texts over plain data, its proof, and what it says of the functions that the law reaches. My own work. -/
import Derived.Test.YtnhodnfnlnccaaaGreatSl3
set_option linter.unusedSimpArgs false
set_option linter.unusedVariables false
set_option maxRecDepth 100000
set_option maxHeartbeats 2000000
namespace Vm
section
open Go Go.Proofs
theorem oClk : Zad Tryz.prog 102 (sB clk) := oB Tryz.func102 (by kernel_rfl) rfl fun x => Zaj (.cons oIn .nil) mixed Tryz.func102 rfl rfl rfl (by
  have e : ask Tryz.prog [(150, sIn)] Tryz.f102 [I x] (fun r => r = B (clk x)) = (B (clk x) = B (clk x)) := by kernel_rfl
  rw [e])
theorem Zgm : Zad Tryz.prog 69 (sB clk) := oB Tryz.func69 (by kernel_rfl) rfl fun x => Zaj (.cons oUp .nil) mixed Tryz.func69 rfl rfl rfl (by
  have e : ask Tryz.prog [(119, sUp)] Tryz.f69 [I x] (fun r => r = B (clk x)) = (B (clk x) = B (clk x)) := by kernel_rfl
  rw [e])
def wmay (v c l : Int) : Bool := val8 v && (clk c && upto l 0 255)
def Zeq : Spec := fun ds Q => match ds with | [.agg [.v (.int .i64 a), .v (.int .i64 b), .v (.int .i64 c)]] => Q (B (wmay a b c)) | _ => False
def sOdd : Spec := fun ds Q => match ds with | [.agg [.v (.int .i64 a), .v (.int .i64 b), .v (.int .i64 c)]] => Q (B (!wmay a b c)) | _ => False
theorem ZtA (a b c : Int) (K : DV → Prop) : (ask Tryz.prog [(115, sB val8), (102, sB clk), (150, sIn)] Tryz.f100 [.agg [vi a, vi b, vi c]] K) = (bif val8 a then bif clk b then K (DV.c (D.v (Value.bool (upto c (0) (255))))) else K (DV.c (D.v (Value.bool false))) else K (DV.c (D.v (Value.bool false)))) := by kernel_rfl
theorem Ztq (a b c : Int) (K : DV → Prop) : (ask Tryz.prog [(91, sB val8), (69, sB clk), (119, sUp)] Tryz.f118 [.agg [vi a, vi b, vi c]] K) = (bif val8 a then bif clk b then K (DV.c (D.v (Value.bool (upto c (0) (255))))) else K (DV.c (D.v (Value.bool false))) else K (DV.c (D.v (Value.bool false)))) := by kernel_rfl
theorem eOdd (a b c : Int) (K : DV → Prop) : (ask Tryz.prog [(100, Zeq)] Tryz.f99 [.agg [vi a, vi b, vi c]] K) = (K (DV.c (D.v (Value.bool !wmay a b c)))) := by kernel_rfl
theorem Zu4 : Zad Tryz.prog 100 Zeq := o_of Tryz.func100 (by kernel_rfl) rfl fun ds Q h => by
  unfold Zeq at h; split at h
  · refine ⟨_, Zaj (.cons oVal (.cons oClk (.cons oIn .nil))) mixed Tryz.func100 rfl rfl rfl ?_, rfl, rfl, h⟩
    rw [ZtA]; simp only [bifK]; rfl
  · exact h.elim
theorem Zls : Zad Tryz.prog 118 Zeq := o_of Tryz.func118 (by kernel_rfl) rfl fun ds Q h => by
  unfold Zeq at h; split at h
  · refine ⟨_, Zaj (.cons Zfn (.cons Zgm (.cons oUp .nil))) mixed Tryz.func118 rfl rfl rfl ?_, rfl, rfl, h⟩
    rw [Ztq]; simp only [bifK]; rfl
  · exact h.elim
theorem oOdd : Zad Tryz.prog 99 sOdd := o_of Tryz.func99 (by kernel_rfl) rfl fun ds Q h => by
  unfold sOdd at h; split at h
  · refine ⟨_, Zaj (.cons Zu4 .nil) mixed Tryz.func99 rfl rfl rfl ?_, rfl, rfl, h⟩
    rw [eOdd]
  · exact h.elim
def Zbj (r : List Int) : Bool := wmay (r.getD 0 0) (r.getD 1 0) (r.getD 2 0)
def fx (l : List (List Int)) : Option Nat := l.findIdx? fun r => !Zbj r
def idxF (l : List (List Int)) : Int := match fx l with | some i => (i : Int) | none => -1
def stIx (R sp : List (List D)) (i v : Int) : X := ⟨mkT 19 [(0, aS 3 R sp), (1, .c (.d (.f 99 [] []))), (4, ai v), (7, ai R.length), (8, ai i)], [], [], []⟩
def vIx (R sp : List (List D)) (y : X) : X := stIx R sp (Zdx y 8) (Zdx y 4)
theorem eIxr (R sp : List (List D)) (i v : Int) (N : X → Prop) (E : Exit → X → Prop) : (ZaZ band bor Tryz.prog [(99, sOdd)] [] Tryz.f151 0 [0, 1, 4, 7, 8] [] (vIx R sp) (vIx R sp) N E (stIx R sp i v)) = (bif decide (i < @Nat.cast Int _ (List.length R)) then bif decide (0 ≤ i) && decide (i < @Nat.cast Int _ (List.length R)) then bif isJ [IntKind.i64, IntKind.i64, IntKind.i64] (List.drop (0) (List.getD R (Int.toNat i) [])) then bif !wmay (hdJ (List.drop (0) (List.getD R (Int.toNat i) []))) (hdJ (List.tail (List.drop (0) (List.getD R (Int.toNat i) [])))) (hdJ (List.tail (List.tail (List.drop (0) (List.getD R (Int.toNat i) []))))) then stIx R sp i i = stIx R sp i i ∧ E Exit.ret (stIx R sp i i) else stIx R sp (IntKind.wrap IntKind.i64 (i + 1)) v = stIx R sp (IntKind.wrap IntKind.i64 (i + 1)) v ∧ N (stIx R sp (IntKind.wrap IntKind.i64 (i + 1)) v) else False else False else stIx R sp i v = stIx R sp i v ∧ E (Exit.exit (0)) (stIx R sp i v)) := by kernel_rfl
def Zqb (l : List (List Int)) (sp : List (List D)) : LSum := fun Q x => x.only [0, 1, 4, 7, 8] [] = stIx (mZ l) sp 0 0 ∧ (∀ i : Nat, fx l = some i → Q .ret (stIx (mZ l) sp i i)) ∧ (fx l = none → Q (.exit 0) (stIx (mZ l) sp l.length 0))
theorem eIx (l : List (List Int)) (sp : List (List D)) (K : DV → Prop) : (askL Tryz.prog [] [(2, Zqb l sp)] Tryz.f151 [dS 3 (mZ l) sp, .c (.f 99 [] [])] K) = (stIx (mZ l) sp (0) (0) = stIx (mZ l) sp (0) (0) ∧ (∀ (i : Nat), fx l = some i → K (DV.c (D.v (Value.int IntKind.i64 (@Nat.cast Int _ i))))) ∧ (fx l = none → K (DV.c (D.v (Value.int IntKind.i64 (-1)))))) := by kernel_rfl
theorem ZuU {l : List (List Int)} {sp : List (List D)} (hw : wid 3 l) (hn : l.length ≤ 9223372036854775807) (Q : Exit → X → Prop) (x : X) (h : Zqb l sp Q x) : XWP Tryz.prog (.loop (Zan Tryz.f151 0)) Q x := by
  obtain ⟨h1, h2, h3⟩ := h
  refine ZaM (ι := Nat) (H := hkA band bor [(99, sOdd)] []) (fn := Tryz.f151) (i := 0) (ts := [0, 1, 4, 7, 8]) (ks := []) (ZaI (.cons oOdd .nil)) mixed (Zah rfl)
    (fun i => stIx (mZ l) sp i 0) (fun i => i ≤ l.length ∧ ∀ j, j < i → Zbj (l.getD j []) = true) (fun i => l.length - i) 0 (vIx (mZ l) sp) (vIx (mZ l) sp) (fun i hp => ?_) ⟨Nat.zero_le _, fun j hj => by omega⟩ h1
  obtain ⟨hi, hj⟩ := hp
  show ZaZ band bor Tryz.prog _ _ Tryz.f151 0 _ _ _ _ _ _ _
  rw [eIxr]
  by_cases hl : i < l.length
  · have wi : IntKind.wrap .i64 ((i : Int) + 1) = ((i + 1 : Nat) : Int) := Zat (n := 1) (by omega)
    have hj1 : isJ [IntKind.i64, IntKind.i64, IntKind.i64] ((mZ l).getD i []) = true := Zav (j := 0) (n := 3) hw hl (by omega)
    simp only [Zaf, Int.ofNat_lt, hl, decide_true, cond_true, Int.natCast_nonneg, Bool.and_self, Int.toNat_natCast, ZaG, ZaF, hj1, List.drop_zero, ZaB, true_and, wi]
    have e : Zbj (l.getD i []) = wmay ((l.getD i []).getD 0 0) ((l.getD i []).getD 1 0) ((l.getD i []).getD 2 0) := rfl
    rw [← e]
    cases ho : Zbj (l.getD i []) with
    | false =>
      refine h2 i ?_
      rw [fx, List.findIdx?_eq_some_iff_getElem]
      refine ⟨hl, ?_, fun j hji => ?_⟩
      · have : l.getD i [] = l[i] := by simp [List.getD_eq_getElem?_getD, hl]
        rw [this] at ho; simp [ho]
      · have := hj j hji
        have hjl : j < l.length := by omega
        have e2 : l.getD j [] = l[j] := by simp [List.getD_eq_getElem?_getD, hjl]
        rw [e2] at this; simp [this]
    | true =>
      refine ⟨i + 1, by omega, ⟨hl, fun j hji => ?_⟩, rfl⟩
      rcases Nat.lt_succ_iff_lt_or_eq.1 hji with hji | rfl
      · exact hj j hji
      · exact ho
  · have e : i = l.length := by omega
    subst e
    simp only [Zaf, Int.ofNat_lt, Nat.lt_irrefl, decide_false, cond_false, true_and]
    refine h3 ?_
    rw [fx, List.findIdx?_eq_none_iff]
    intro x hx
    obtain ⟨j, hj', rfl⟩ := List.mem_iff_getElem.1 hx
    have := hj j hj'
    have e2 : l.getD j [] = l[j] := by simp [List.getD_eq_getElem?_getD, hj']
    rw [e2] at this; simp [this]
def sIx : Spec := fun ds Q => match ds with | [.c (.s 0 3 R sp), .c (.f 99 [] [])] => cond (okZ 3 R) (Q (I (idxF (toZ R)))) False | _ => False
theorem oIx : Zad Tryz.prog 151 sIx := o_of Tryz.func151 (by kernel_rfl) rfl fun ds Q h => by
  unfold sIx at h; split at h
  · rename_i R sp
    obtain ⟨h1, h2⟩ := Zae h
    obtain ⟨e1, w1, n1⟩ := Zag h1
    rw [e1]
    rw [← Zau R] at n1
    generalize toZ R = l at *
    refine ⟨_, ZaK (l := []) (m := [(2, Zqb l sp)]) .nil mixed (ZbK rfl (by kernel_rfl) (ZuU w1 n1)) Tryz.func151 rfl rfl rfl ?_, rfl, rfl, h2⟩
    rw [eIx]
    refine ⟨rfl, fun i hi => ?_, fun hn => ?_⟩
    · simp [idxF, hi]
    · simp [idxF, hn]
  · exact h.elim
def badW (l : List (List Int)) : Bool := l.any fun r => !Zbj r
theorem ZqR (l : List (List Int)) : decide (idxF l ≥ 0) = badW l := by
  unfold idxF
  cases h : fx l with
  | some i =>
    have : badW l = true := by
      rw [fx, List.findIdx?_eq_some_iff_getElem] at h
      obtain ⟨h1, h2, _⟩ := h
      exact List.any_eq_true.2 ⟨_, List.getElem_mem h1, h2⟩
    rw [this]; simp
  | none =>
    have : badW l = false := by
      rw [fx, List.findIdx?_eq_none_iff] at h
      unfold badW
      rw [List.any_eq_false]; intro x hx; simpa using h x hx
    rw [this]; rfl
theorem eCon (R sp : List (List D)) (K : DV → Prop) : (ask Tryz.prog [(151, sIx)] Tryz.f101 [dS 3 R sp, .c (.f 99 [] [])] K) = (bif okZ (3) R then K (DV.c (D.v (Value.bool (decide (idxF (toZ R) ≥ 0))))) else False) := by kernel_rfl
def sCon : Spec := fun ds Q => match ds with | [.c (.s 0 3 R sp), .c (.f 99 [] [])] => cond (okZ 3 R) (Q (B (badW (toZ R)))) False | _ => False
theorem oCon : Zad Tryz.prog 101 sCon := o_of Tryz.func101 (by kernel_rfl) rfl fun ds Q h => by
  unfold sCon at h; split at h
  · obtain ⟨h1, h2⟩ := Zae h
    refine ⟨_, Zaj (.cons oIx .nil) mixed Tryz.func101 rfl rfl rfl ?_, rfl, rfl, h2⟩
    rw [eCon, h1, ZqR]; rfl
  · exact h.elim
abbrev dA (R0 p0 R1 p1 R2 p2 R3 p3 : List (List D)) : DV := .agg [.s 0 3 R0 p0, .s 0 3 R1 p1, .s 0 3 R2 p2, .s 0 3 R3 p3]
def Zax (l : List (List Int)) : Bool := !(decide (l.length > 4) || badW l)
def amay (a b c d : List (List Int)) : Bool := Zax a && (Zax b && (Zax c && Zax d))
theorem ZuI (R0 p0 R1 p1 R2 p2 R3 p3 : List (List D)) (K : DV → Prop) : (ask Tryz.prog [(101, sCon)] Tryz.f60 [dA R0 p0 R1 p1 R2 p2 R3 p3] K) = (bif decide (@Nat.cast Int _ (List.length R0) > 4) then K (DV.c (D.v (Value.bool false))) else bif okZ (3) R0 then bif badW (toZ R0) then K (DV.c (D.v (Value.bool false))) else bif decide (@Nat.cast Int _ (List.length R1) > 4) then K (DV.c (D.v (Value.bool false))) else bif okZ (3) R1 then bif badW (toZ R1) then K (DV.c (D.v (Value.bool false))) else bif decide (@Nat.cast Int _ (List.length R2) > 4) then K (DV.c (D.v (Value.bool false))) else bif okZ (3) R2 then bif badW (toZ R2) then K (DV.c (D.v (Value.bool false))) else bif decide (@Nat.cast Int _ (List.length R3) > 4) then K (DV.c (D.v (Value.bool false))) else bif okZ (3) R3 then bif badW (toZ R3) then K (DV.c (D.v (Value.bool false))) else K (DV.c (D.v (Value.bool true))) else False else False else False else False) := by kernel_rfl
end

section
open Go Go.Proofs
abbrev pA (R0 p0 R1 p1 R2 p2 R3 p3 : List (List D)) : DV := .c (.p 0 [.s 0 3 R0 p0, .s 0 3 R1 p1, .s 0 3 R2 p2, .s 0 3 R3 p3] 0)
def okA (R0 R1 R2 R3 : List (List D)) : Bool := okZ 3 R0 && (okZ 3 R1 && (okZ 3 R2 && okZ 3 R3))
theorem Zdb {R0 R1 R2 R3 : List (List D)} (h : okA R0 R1 R2 R3 = true) : okZ 3 R0 = true ∧ okZ 3 R1 = true ∧ okZ 3 R2 = true ∧ okZ 3 R3 = true := by simpa [okA, Bool.and_eq_true] using h
def Zcp : Spec := fun ds Q => match ds with | [.agg [.s 0 3 R0 p0, .s 0 3 R1 p1, .s 0 3 R2 p2, .s 0 3 R3 p3]] => cond (okA R0 R1 R2 R3) (Q (B (amay (toZ R0) (toZ R1) (toZ R2) (toZ R3)))) False | _ => False
theorem Zl4 (R : List (List D)) : Zax (toZ R) = (!decide ((R.length : Int) > 4) && !badW (toZ R)) := by
  unfold Zax
  rw [Zau]
  have : decide ((R.length : Int) > 4) = decide (R.length > 4) := by congr 1; exact propext ⟨fun h => by omega, fun h => by omega⟩
  rw [this]; cases decide (R.length > 4) <;> rfl
theorem Zl9 : Zad Tryz.prog 60 Zcp := o_of Tryz.func60 (by kernel_rfl) rfl fun ds Q h => by
  unfold Zcp at h; split at h
  · rename_i R0 p0 R1 p1 R2 p2 R3 p3
    obtain ⟨h1, h2⟩ := Zae h
    obtain ⟨a0, a1, a2, a3⟩ := Zdb h1
    refine ⟨_, Zaj (.cons oCon .nil) mixed Tryz.func60 rfl rfl rfl ?_, rfl, rfl, h2⟩
    rw [ZuI]
    simp only [a0, a1, a2, a3, cond_true, amay, Zl4]
    cases decide ((R0.length : Int) > 4) <;> cases badW (toZ R0) <;> cases decide ((R1.length : Int) > 4) <;> cases badW (toZ R1) <;> cases decide ((R2.length : Int) > 4) <;> cases badW (toZ R2) <;> cases decide ((R3.length : Int) > 4) <;> cases badW (toZ R3) <;> rfl
  · exact h.elim
def stAM (R0 p0 R1 p1 R2 p2 R3 p3 : List (List D)) (g i : Int) (p : Bool) : X := ⟨mkT 29 [(1, .c (.rp 2 0 4 0 0)), (2, ab p), (3, ai g), (4, ai i)], [(2, .bx 0 4 [.d (.s 0 3 R0 p0), .d (.s 0 3 R1 p1), .d (.s 0 3 R2 p2), .d (.s 0 3 R3 p3)])], [], []⟩
def vAM (R0 p0 R1 p1 R2 p2 R3 p3 : List (List D)) (g : Int) (y : X) : X := stAM R0 p0 R1 p1 R2 p2 R3 p3 g (Zdx y 4) (Znq y 2)
theorem eThr (R0 p0 R1 p1 R2 p2 R3 p3 : List (List D)) (lv num : Int) (K : DV → Prop) : (ask Tryz.prog [(64, sB lab)] Tryz.f157 [pA R0 p0 R1 p1 R2 p2 R3 p3, I lv, I num] K) = (bif lab lv then bif decide (num ≥ 0) then bif decide (lv = 0) then K (DV.c (D.v (Value.bool (decide (num < @Nat.cast Int _ (List.length R0)))))) else bif decide (lv = 1) then K (DV.c (D.v (Value.bool (decide (num < @Nat.cast Int _ (List.length R1)))))) else bif decide (lv = 2) then K (DV.c (D.v (Value.bool (decide (num < @Nat.cast Int _ (List.length R2)))))) else bif decide (lv = 3) then K (DV.c (D.v (Value.bool (decide (num < @Nat.cast Int _ (List.length R3)))))) else False else K (DV.c (D.v (Value.bool false))) else K (DV.c (D.v (Value.bool false)))) := by kernel_rfl
theorem Ztz (R0 p0 R1 p1 R2 p2 R3 p3 : List (List D)) (lv num : Int) (K : DV → Prop) : (ask Tryz.prog [(71, sB lab)] Tryz.f164 [dA R0 p0 R1 p1 R2 p2 R3 p3, I lv, I num] K) = (bif lab lv then bif decide (num ≥ 0) then bif decide (lv = 0) then K (DV.c (D.v (Value.bool (decide (num < @Nat.cast Int _ (List.length R0)))))) else bif decide (lv = 1) then K (DV.c (D.v (Value.bool (decide (num < @Nat.cast Int _ (List.length R1)))))) else bif decide (lv = 2) then K (DV.c (D.v (Value.bool (decide (num < @Nat.cast Int _ (List.length R2)))))) else bif decide (lv = 3) then K (DV.c (D.v (Value.bool (decide (num < @Nat.cast Int _ (List.length R3)))))) else False else K (DV.c (D.v (Value.bool false))) else K (DV.c (D.v (Value.bool false)))) := by kernel_rfl
theorem Zt0 (R0 p0 R1 p1 R2 p2 R3 p3 : List (List D)) (i : Int) (p : Bool) (N : X → Prop) (E : Exit → X → Prop) : (ZaZ band bor Tryz.prog [(118, Zeq)] [] Tryz.f68 1 [1, 2, 3, 4] [2] (vAM R0 p0 R1 p1 R2 p2 R3 p3 0) (vAM R0 p0 R1 p1 R2 p2 R3 p3 0) N E (stAM R0 p0 R1 p1 R2 p2 R3 p3 0 i p)) = (bif decide (i < @Nat.cast Int _ (List.length R0)) then bif decide (i ≥ 4) then stAM R0 p0 R1 p1 R2 p2 R3 p3 (0) i false = stAM R0 p0 R1 p1 R2 p2 R3 p3 (0) i false ∧ E Exit.ret (stAM R0 p0 R1 p1 R2 p2 R3 p3 (0) i false) else bif decide (0 ≤ i) && decide (i < @Nat.cast Int _ (List.length R0)) then bif isJ [IntKind.i64, IntKind.i64, IntKind.i64] (List.drop (0) (List.getD R0 (Int.toNat i) [])) then bif !wmay (hdJ (List.drop (0) (List.getD R0 (Int.toNat i) []))) (hdJ (List.tail (List.drop (0) (List.getD R0 (Int.toNat i) [])))) (hdJ (List.tail (List.tail (List.drop (0) (List.getD R0 (Int.toNat i) []))))) then stAM R0 p0 R1 p1 R2 p2 R3 p3 (0) i false = stAM R0 p0 R1 p1 R2 p2 R3 p3 (0) i false ∧ E Exit.ret (stAM R0 p0 R1 p1 R2 p2 R3 p3 (0) i false) else stAM R0 p0 R1 p1 R2 p2 R3 p3 (0) (IntKind.wrap IntKind.i64 (i + 1)) p = stAM R0 p0 R1 p1 R2 p2 R3 p3 (0) (IntKind.wrap IntKind.i64 (i + 1)) p ∧ N (stAM R0 p0 R1 p1 R2 p2 R3 p3 (0) (IntKind.wrap IntKind.i64 (i + 1)) p) else False else False else stAM R0 p0 R1 p1 R2 p2 R3 p3 (0) i p = stAM R0 p0 R1 p1 R2 p2 R3 p3 (0) i p ∧ E (Exit.exit (2)) (stAM R0 p0 R1 p1 R2 p2 R3 p3 (0) i p)) := by kernel_rfl
theorem Zuw (R0 p0 R1 p1 R2 p2 R3 p3 : List (List D)) (i : Int) (p : Bool) (N : X → Prop) (E : Exit → X → Prop) : (ZaZ band bor Tryz.prog [(118, Zeq)] [] Tryz.f68 1 [1, 2, 3, 4] [2] (vAM R0 p0 R1 p1 R2 p2 R3 p3 1) (vAM R0 p0 R1 p1 R2 p2 R3 p3 1) N E (stAM R0 p0 R1 p1 R2 p2 R3 p3 1 i p)) = (bif decide (i < @Nat.cast Int _ (List.length R1)) then bif decide (i ≥ 4) then stAM R0 p0 R1 p1 R2 p2 R3 p3 (1) i false = stAM R0 p0 R1 p1 R2 p2 R3 p3 (1) i false ∧ E Exit.ret (stAM R0 p0 R1 p1 R2 p2 R3 p3 (1) i false) else bif decide (0 ≤ i) && decide (i < @Nat.cast Int _ (List.length R1)) then bif isJ [IntKind.i64, IntKind.i64, IntKind.i64] (List.drop (0) (List.getD R1 (Int.toNat i) [])) then bif !wmay (hdJ (List.drop (0) (List.getD R1 (Int.toNat i) []))) (hdJ (List.tail (List.drop (0) (List.getD R1 (Int.toNat i) [])))) (hdJ (List.tail (List.tail (List.drop (0) (List.getD R1 (Int.toNat i) []))))) then stAM R0 p0 R1 p1 R2 p2 R3 p3 (1) i false = stAM R0 p0 R1 p1 R2 p2 R3 p3 (1) i false ∧ E Exit.ret (stAM R0 p0 R1 p1 R2 p2 R3 p3 (1) i false) else stAM R0 p0 R1 p1 R2 p2 R3 p3 (1) (IntKind.wrap IntKind.i64 (i + 1)) p = stAM R0 p0 R1 p1 R2 p2 R3 p3 (1) (IntKind.wrap IntKind.i64 (i + 1)) p ∧ N (stAM R0 p0 R1 p1 R2 p2 R3 p3 (1) (IntKind.wrap IntKind.i64 (i + 1)) p) else False else False else stAM R0 p0 R1 p1 R2 p2 R3 p3 (1) i p = stAM R0 p0 R1 p1 R2 p2 R3 p3 (1) i p ∧ E (Exit.exit (2)) (stAM R0 p0 R1 p1 R2 p2 R3 p3 (1) i p)) := by kernel_rfl
theorem Zt1 (R0 p0 R1 p1 R2 p2 R3 p3 : List (List D)) (i : Int) (p : Bool) (N : X → Prop) (E : Exit → X → Prop) : (ZaZ band bor Tryz.prog [(118, Zeq)] [] Tryz.f68 1 [1, 2, 3, 4] [2] (vAM R0 p0 R1 p1 R2 p2 R3 p3 2) (vAM R0 p0 R1 p1 R2 p2 R3 p3 2) N E (stAM R0 p0 R1 p1 R2 p2 R3 p3 2 i p)) = (bif decide (i < @Nat.cast Int _ (List.length R2)) then bif decide (i ≥ 4) then stAM R0 p0 R1 p1 R2 p2 R3 p3 (2) i false = stAM R0 p0 R1 p1 R2 p2 R3 p3 (2) i false ∧ E Exit.ret (stAM R0 p0 R1 p1 R2 p2 R3 p3 (2) i false) else bif decide (0 ≤ i) && decide (i < @Nat.cast Int _ (List.length R2)) then bif isJ [IntKind.i64, IntKind.i64, IntKind.i64] (List.drop (0) (List.getD R2 (Int.toNat i) [])) then bif !wmay (hdJ (List.drop (0) (List.getD R2 (Int.toNat i) []))) (hdJ (List.tail (List.drop (0) (List.getD R2 (Int.toNat i) [])))) (hdJ (List.tail (List.tail (List.drop (0) (List.getD R2 (Int.toNat i) []))))) then stAM R0 p0 R1 p1 R2 p2 R3 p3 (2) i false = stAM R0 p0 R1 p1 R2 p2 R3 p3 (2) i false ∧ E Exit.ret (stAM R0 p0 R1 p1 R2 p2 R3 p3 (2) i false) else stAM R0 p0 R1 p1 R2 p2 R3 p3 (2) (IntKind.wrap IntKind.i64 (i + 1)) p = stAM R0 p0 R1 p1 R2 p2 R3 p3 (2) (IntKind.wrap IntKind.i64 (i + 1)) p ∧ N (stAM R0 p0 R1 p1 R2 p2 R3 p3 (2) (IntKind.wrap IntKind.i64 (i + 1)) p) else False else False else stAM R0 p0 R1 p1 R2 p2 R3 p3 (2) i p = stAM R0 p0 R1 p1 R2 p2 R3 p3 (2) i p ∧ E (Exit.exit (2)) (stAM R0 p0 R1 p1 R2 p2 R3 p3 (2) i p)) := by kernel_rfl
theorem ZtC (R0 p0 R1 p1 R2 p2 R3 p3 : List (List D)) (i : Int) (p : Bool) (N : X → Prop) (E : Exit → X → Prop) : (ZaZ band bor Tryz.prog [(118, Zeq)] [] Tryz.f68 1 [1, 2, 3, 4] [2] (vAM R0 p0 R1 p1 R2 p2 R3 p3 3) (vAM R0 p0 R1 p1 R2 p2 R3 p3 3) N E (stAM R0 p0 R1 p1 R2 p2 R3 p3 3 i p)) = (bif decide (i < @Nat.cast Int _ (List.length R3)) then bif decide (i ≥ 4) then stAM R0 p0 R1 p1 R2 p2 R3 p3 (3) i false = stAM R0 p0 R1 p1 R2 p2 R3 p3 (3) i false ∧ E Exit.ret (stAM R0 p0 R1 p1 R2 p2 R3 p3 (3) i false) else bif decide (0 ≤ i) && decide (i < @Nat.cast Int _ (List.length R3)) then bif isJ [IntKind.i64, IntKind.i64, IntKind.i64] (List.drop (0) (List.getD R3 (Int.toNat i) [])) then bif !wmay (hdJ (List.drop (0) (List.getD R3 (Int.toNat i) []))) (hdJ (List.tail (List.drop (0) (List.getD R3 (Int.toNat i) [])))) (hdJ (List.tail (List.tail (List.drop (0) (List.getD R3 (Int.toNat i) []))))) then stAM R0 p0 R1 p1 R2 p2 R3 p3 (3) i false = stAM R0 p0 R1 p1 R2 p2 R3 p3 (3) i false ∧ E Exit.ret (stAM R0 p0 R1 p1 R2 p2 R3 p3 (3) i false) else stAM R0 p0 R1 p1 R2 p2 R3 p3 (3) (IntKind.wrap IntKind.i64 (i + 1)) p = stAM R0 p0 R1 p1 R2 p2 R3 p3 (3) (IntKind.wrap IntKind.i64 (i + 1)) p ∧ N (stAM R0 p0 R1 p1 R2 p2 R3 p3 (3) (IntKind.wrap IntKind.i64 (i + 1)) p) else False else False else stAM R0 p0 R1 p1 R2 p2 R3 p3 (3) i p = stAM R0 p0 R1 p1 R2 p2 R3 p3 (3) i p ∧ E (Exit.exit (2)) (stAM R0 p0 R1 p1 R2 p2 R3 p3 (3) i p)) := by kernel_rfl
def sAMg (st : Int → Bool → X) (l : List (List Int)) : LSum := fun Q x => x.only [1, 2, 3, 4] [2] = st 0 false ∧ (Zax l = false → ∀ i : Int, Q .ret (st i false)) ∧ (Zax l = true → Q (.exit 2) (st l.length false))
def Zp8 (R0 p0 R1 p1 R2 p2 R3 p3 : List (List D)) : LSum := fun Q x => Zpe x 3 fun g =>
  cond (decide (g = 0)) (sAMg (stAM R0 p0 R1 p1 R2 p2 R3 p3 0) (toZ R0) Q x) (cond (decide (g = 1)) (sAMg (stAM R0 p0 R1 p1 R2 p2 R3 p3 1) (toZ R1) Q x) (cond (decide (g = 2)) (sAMg (stAM R0 p0 R1 p1 R2 p2 R3 p3 2) (toZ R2) Q x) (sAMg (stAM R0 p0 R1 p1 R2 p2 R3 p3 3) (toZ R3) Q x)))
theorem Ztj (R0 p0 R1 p1 R2 p2 R3 p3 : List (List D)) (K : DV → Prop) : (askL Tryz.prog [] [(5, Zp8 R0 p0 R1 p1 R2 p2 R3 p3)] Tryz.f68 [dA R0 p0 R1 p1 R2 p2 R3 p3] K) = (stAM R0 p0 R1 p1 R2 p2 R3 p3 (0) (0) false = stAM R0 p0 R1 p1 R2 p2 R3 p3 (0) (0) false ∧ (Zax (toZ R0) = false → ∀ (i : Int), K (DV.c (D.v (Value.bool false)))) ∧ (Zax (toZ R0) = true → stAM R0 p0 R1 p1 R2 p2 R3 p3 (1) (0) false = stAM R0 p0 R1 p1 R2 p2 R3 p3 (1) (0) false ∧ (Zax (toZ R1) = false → ∀ (i : Int), K (DV.c (D.v (Value.bool false)))) ∧ (Zax (toZ R1) = true → stAM R0 p0 R1 p1 R2 p2 R3 p3 (2) (0) false = stAM R0 p0 R1 p1 R2 p2 R3 p3 (2) (0) false ∧ (Zax (toZ R2) = false → ∀ (i : Int), K (DV.c (D.v (Value.bool false)))) ∧ (Zax (toZ R2) = true → stAM R0 p0 R1 p1 R2 p2 R3 p3 (3) (0) false = stAM R0 p0 R1 p1 R2 p2 R3 p3 (3) (0) false ∧ (Zax (toZ R3) = false → ∀ (i : Int), K (DV.c (D.v (Value.bool false)))) ∧ (Zax (toZ R3) = true → K (DV.c (D.v (Value.bool true)))))))) := by kernel_rfl
theorem ZaY {l : List (List Int)} {i : Nat} (hi : i < l.length) (h : Zbj (l.getD i []) = false) : Zax l = false := by
  have e : l.getD i [] = l[i] := by simp [List.getD_eq_getElem?_getD, hi]
  rw [e] at h
  have : badW l = true := List.any_eq_true.2 ⟨_, List.getElem_mem hi, by simp [h]⟩
  simp [Zax, this]
theorem Za9 {l : List (List Int)} (h : 4 < l.length) : Zax l = false := by simp [Zax, h]
theorem Zbr {l : List (List Int)} (h : l.length ≤ 4) (ha : ∀ j, j < l.length → Zbj (l.getD j []) = true) : Zax l = true := by
  have : badW l = false := by
    unfold badW
    rw [List.any_eq_false]
    intro x hx
    obtain ⟨j, hj', rfl⟩ := List.mem_iff_getElem.1 hx
    have := ha j hj'
    have e2 : l.getD j [] = l[j] := by simp [List.getD_eq_getElem?_getD, hj']
    rw [e2] at this; simp [this]
  have h4 : ¬ l.length > 4 := by omega
  simp [Zax, this, h4]
theorem ZpL {P : Program} {l : List (FuncId × Spec)} {fn : Func} {k : Nat} {s : LSum} (hn : (Za1 (Zao fn)).length = 2) (hk0 : (hkl l [(k, s)]).loop (Zbw (Zan fn 0)) = none) (hk : Zbw (Zan fn 1) = k) (h : ∀ Q x, s Q x → XWP P (.loop (Zan fn 1)) Q x) : Zas P (hkl l [(k, s)]) (Zao fn) :=
  Zdi 2 hn fun i hi s' hs Q x hq => by
    match i, hi with
    | 0, _ => rw [hk0] at hs; cases hs
    | 1, _ =>
      rw [hk] at hs
      have hs' : some s = some s' := by simpa [ZcX, hkl, hkA, Za7] using hs
      cases hs'
      exact h Q x hq
theorem ZsJ {l : List (List Int)} {sp R1 p1 R2 p2 R3 p3 : List (List D)} (hw : wid 3 l) (hn : l.length ≤ 9223372036854775807) (Q : Exit → X → Prop) (x : X) (h : sAMg (stAM (mZ l) sp R1 p1 R2 p2 R3 p3 0) l Q x) : XWP Tryz.prog (.loop (Zan Tryz.f68 1)) Q x := by
  obtain ⟨h1, h2, h3⟩ := h
  refine ZaM (ι := Nat) (H := hkA band bor [(118, Zeq)] []) (fn := Tryz.f68) (i := 1) (ts := [1, 2, 3, 4]) (ks := [2]) (ZaI (.cons Zls .nil)) mixed (Zah rfl)
    (fun i => stAM (mZ l) sp R1 p1 R2 p2 R3 p3 0 i false) (fun i => i ≤ l.length ∧ i ≤ 4 ∧ ∀ j, j < i → Zbj (l.getD j []) = true) (fun i => l.length - i) 0 (vAM (mZ l) sp R1 p1 R2 p2 R3 p3 0) (vAM (mZ l) sp R1 p1 R2 p2 R3 p3 0) (fun i hp => ?_) ⟨Nat.zero_le _, Nat.zero_le _, fun j hj => by omega⟩ h1
  obtain ⟨hi, h4, hj⟩ := hp
  show ZaZ band bor Tryz.prog _ _ Tryz.f68 1 _ _ _ _ _ _ _
  rw [Zt0]
  by_cases hl : i < l.length
  · by_cases h4' : i = 4
    · have e4 : decide ((i : Int) ≥ 4) = true := by simp; omega
      simp only [Zaf, Int.ofNat_lt, hl, decide_true, cond_true, e4, true_and]
      exact h2 (Za9 (by omega)) _
    · have e4 : decide ((i : Int) ≥ 4) = false := by simp; omega
      have wi : IntKind.wrap .i64 ((i : Int) + 1) = ((i + 1 : Nat) : Int) := Zat (n := 1) (by omega)
      have hj1 : isJ [IntKind.i64, IntKind.i64, IntKind.i64] ((mZ l).getD i []) = true := Zav (j := 0) (n := 3) hw hl (by omega)
      simp only [Zaf, Int.ofNat_lt, hl, decide_true, cond_true, cond_false, e4, Int.natCast_nonneg, Bool.and_self, Int.toNat_natCast, ZaG, ZaF, hj1, List.drop_zero, ZaB, true_and, wi]
      have e : Zbj (l.getD i []) = wmay ((l.getD i []).getD 0 0) ((l.getD i []).getD 1 0) ((l.getD i []).getD 2 0) := rfl
      rw [← e]
      cases ho : Zbj (l.getD i []) with
      | false => exact h2 (ZaY hl ho) _
      | true =>
        refine ⟨i + 1, by omega, ⟨hl, by omega, fun j hji => ?_⟩, rfl⟩
        rcases Nat.lt_succ_iff_lt_or_eq.1 hji with hji | rfl
        · exact hj j hji
        · exact ho
  · have e : i = l.length := by omega
    subst e
    simp only [Zaf, Int.ofNat_lt, Nat.lt_irrefl, decide_false, cond_false, true_and]
    exact h3 (Zbr h4 hj)
theorem Zss {l : List (List Int)} {sp R0 p0 R2 p2 R3 p3 : List (List D)} (hw : wid 3 l) (hn : l.length ≤ 9223372036854775807) (Q : Exit → X → Prop) (x : X) (h : sAMg (stAM R0 p0 (mZ l) sp R2 p2 R3 p3 1) l Q x) : XWP Tryz.prog (.loop (Zan Tryz.f68 1)) Q x := by
  obtain ⟨h1, h2, h3⟩ := h
  refine ZaM (ι := Nat) (H := hkA band bor [(118, Zeq)] []) (fn := Tryz.f68) (i := 1) (ts := [1, 2, 3, 4]) (ks := [2]) (ZaI (.cons Zls .nil)) mixed (Zah rfl)
    (fun i => stAM R0 p0 (mZ l) sp R2 p2 R3 p3 1 i false) (fun i => i ≤ l.length ∧ i ≤ 4 ∧ ∀ j, j < i → Zbj (l.getD j []) = true) (fun i => l.length - i) 0 (vAM R0 p0 (mZ l) sp R2 p2 R3 p3 1) (vAM R0 p0 (mZ l) sp R2 p2 R3 p3 1) (fun i hp => ?_) ⟨Nat.zero_le _, Nat.zero_le _, fun j hj => by omega⟩ h1
  obtain ⟨hi, h4, hj⟩ := hp
  show ZaZ band bor Tryz.prog _ _ Tryz.f68 1 _ _ _ _ _ _ _
  rw [Zuw]
  by_cases hl : i < l.length
  · by_cases h4' : i = 4
    · have e4 : decide ((i : Int) ≥ 4) = true := by simp; omega
      simp only [Zaf, Int.ofNat_lt, hl, decide_true, cond_true, e4, true_and]
      exact h2 (Za9 (by omega)) _
    · have e4 : decide ((i : Int) ≥ 4) = false := by simp; omega
      have wi : IntKind.wrap .i64 ((i : Int) + 1) = ((i + 1 : Nat) : Int) := Zat (n := 1) (by omega)
      have hj1 : isJ [IntKind.i64, IntKind.i64, IntKind.i64] ((mZ l).getD i []) = true := Zav (j := 0) (n := 3) hw hl (by omega)
      simp only [Zaf, Int.ofNat_lt, hl, decide_true, cond_true, cond_false, e4, Int.natCast_nonneg, Bool.and_self, Int.toNat_natCast, ZaG, ZaF, hj1, List.drop_zero, ZaB, true_and, wi]
      have e : Zbj (l.getD i []) = wmay ((l.getD i []).getD 0 0) ((l.getD i []).getD 1 0) ((l.getD i []).getD 2 0) := rfl
      rw [← e]
      cases ho : Zbj (l.getD i []) with
      | false => exact h2 (ZaY hl ho) _
      | true =>
        refine ⟨i + 1, by omega, ⟨hl, by omega, fun j hji => ?_⟩, rfl⟩
        rcases Nat.lt_succ_iff_lt_or_eq.1 hji with hji | rfl
        · exact hj j hji
        · exact ho
  · have e : i = l.length := by omega
    subst e
    simp only [Zaf, Int.ofNat_lt, Nat.lt_irrefl, decide_false, cond_false, true_and]
    exact h3 (Zbr h4 hj)
theorem ZrM {l : List (List Int)} {sp R0 p0 R1 p1 R3 p3 : List (List D)} (hw : wid 3 l) (hn : l.length ≤ 9223372036854775807) (Q : Exit → X → Prop) (x : X) (h : sAMg (stAM R0 p0 R1 p1 (mZ l) sp R3 p3 2) l Q x) : XWP Tryz.prog (.loop (Zan Tryz.f68 1)) Q x := by
  obtain ⟨h1, h2, h3⟩ := h
  refine ZaM (ι := Nat) (H := hkA band bor [(118, Zeq)] []) (fn := Tryz.f68) (i := 1) (ts := [1, 2, 3, 4]) (ks := [2]) (ZaI (.cons Zls .nil)) mixed (Zah rfl)
    (fun i => stAM R0 p0 R1 p1 (mZ l) sp R3 p3 2 i false) (fun i => i ≤ l.length ∧ i ≤ 4 ∧ ∀ j, j < i → Zbj (l.getD j []) = true) (fun i => l.length - i) 0 (vAM R0 p0 R1 p1 (mZ l) sp R3 p3 2) (vAM R0 p0 R1 p1 (mZ l) sp R3 p3 2) (fun i hp => ?_) ⟨Nat.zero_le _, Nat.zero_le _, fun j hj => by omega⟩ h1
  obtain ⟨hi, h4, hj⟩ := hp
  show ZaZ band bor Tryz.prog _ _ Tryz.f68 1 _ _ _ _ _ _ _
  rw [Zt1]
  by_cases hl : i < l.length
  · by_cases h4' : i = 4
    · have e4 : decide ((i : Int) ≥ 4) = true := by simp; omega
      simp only [Zaf, Int.ofNat_lt, hl, decide_true, cond_true, e4, true_and]
      exact h2 (Za9 (by omega)) _
    · have e4 : decide ((i : Int) ≥ 4) = false := by simp; omega
      have wi : IntKind.wrap .i64 ((i : Int) + 1) = ((i + 1 : Nat) : Int) := Zat (n := 1) (by omega)
      have hj1 : isJ [IntKind.i64, IntKind.i64, IntKind.i64] ((mZ l).getD i []) = true := Zav (j := 0) (n := 3) hw hl (by omega)
      simp only [Zaf, Int.ofNat_lt, hl, decide_true, cond_true, cond_false, e4, Int.natCast_nonneg, Bool.and_self, Int.toNat_natCast, ZaG, ZaF, hj1, List.drop_zero, ZaB, true_and, wi]
      have e : Zbj (l.getD i []) = wmay ((l.getD i []).getD 0 0) ((l.getD i []).getD 1 0) ((l.getD i []).getD 2 0) := rfl
      rw [← e]
      cases ho : Zbj (l.getD i []) with
      | false => exact h2 (ZaY hl ho) _
      | true =>
        refine ⟨i + 1, by omega, ⟨hl, by omega, fun j hji => ?_⟩, rfl⟩
        rcases Nat.lt_succ_iff_lt_or_eq.1 hji with hji | rfl
        · exact hj j hji
        · exact ho
  · have e : i = l.length := by omega
    subst e
    simp only [Zaf, Int.ofNat_lt, Nat.lt_irrefl, decide_false, cond_false, true_and]
    exact h3 (Zbr h4 hj)
theorem Zsb {l : List (List Int)} {sp R0 p0 R1 p1 R2 p2 : List (List D)} (hw : wid 3 l) (hn : l.length ≤ 9223372036854775807) (Q : Exit → X → Prop) (x : X) (h : sAMg (stAM R0 p0 R1 p1 R2 p2 (mZ l) sp 3) l Q x) : XWP Tryz.prog (.loop (Zan Tryz.f68 1)) Q x := by
  obtain ⟨h1, h2, h3⟩ := h
  refine ZaM (ι := Nat) (H := hkA band bor [(118, Zeq)] []) (fn := Tryz.f68) (i := 1) (ts := [1, 2, 3, 4]) (ks := [2]) (ZaI (.cons Zls .nil)) mixed (Zah rfl)
    (fun i => stAM R0 p0 R1 p1 R2 p2 (mZ l) sp 3 i false) (fun i => i ≤ l.length ∧ i ≤ 4 ∧ ∀ j, j < i → Zbj (l.getD j []) = true) (fun i => l.length - i) 0 (vAM R0 p0 R1 p1 R2 p2 (mZ l) sp 3) (vAM R0 p0 R1 p1 R2 p2 (mZ l) sp 3) (fun i hp => ?_) ⟨Nat.zero_le _, Nat.zero_le _, fun j hj => by omega⟩ h1
  obtain ⟨hi, h4, hj⟩ := hp
  show ZaZ band bor Tryz.prog _ _ Tryz.f68 1 _ _ _ _ _ _ _
  rw [ZtC]
  by_cases hl : i < l.length
  · by_cases h4' : i = 4
    · have e4 : decide ((i : Int) ≥ 4) = true := by simp; omega
      simp only [Zaf, Int.ofNat_lt, hl, decide_true, cond_true, e4, true_and]
      exact h2 (Za9 (by omega)) _
    · have e4 : decide ((i : Int) ≥ 4) = false := by simp; omega
      have wi : IntKind.wrap .i64 ((i : Int) + 1) = ((i + 1 : Nat) : Int) := Zat (n := 1) (by omega)
      have hj1 : isJ [IntKind.i64, IntKind.i64, IntKind.i64] ((mZ l).getD i []) = true := Zav (j := 0) (n := 3) hw hl (by omega)
      simp only [Zaf, Int.ofNat_lt, hl, decide_true, cond_true, cond_false, e4, Int.natCast_nonneg, Bool.and_self, Int.toNat_natCast, ZaG, ZaF, hj1, List.drop_zero, ZaB, true_and, wi]
      have e : Zbj (l.getD i []) = wmay ((l.getD i []).getD 0 0) ((l.getD i []).getD 1 0) ((l.getD i []).getD 2 0) := rfl
      rw [← e]
      cases ho : Zbj (l.getD i []) with
      | false => exact h2 (ZaY hl ho) _
      | true =>
        refine ⟨i + 1, by omega, ⟨hl, by omega, fun j hji => ?_⟩, rfl⟩
        rcases Nat.lt_succ_iff_lt_or_eq.1 hji with hji | rfl
        · exact hj j hji
        · exact ho
  · have e : i = l.length := by omega
    subst e
    simp only [Zaf, Int.ofNat_lt, Nat.lt_irrefl, decide_false, cond_false, true_and]
    exact h3 (Zbr h4 hj)
theorem Zpi {R0 p0 R1 p1 R2 p2 R3 p3 : List (List D)} (h0 : okZ 3 R0 = true) (h1 : okZ 3 R1 = true) (h2 : okZ 3 R2 = true) (h3 : okZ 3 R3 = true) (Q : Exit → X → Prop) (x : X) (h : Zp8 R0 p0 R1 p1 R2 p2 R3 p3 Q x) : XWP Tryz.prog (.loop (Zan Tryz.f68 1)) Q x := by
  obtain ⟨g, h⟩ := ZgZ h
  obtain ⟨e0, w0, n0⟩ := Zag h0
  obtain ⟨e1, w1, n1⟩ := Zag h1
  obtain ⟨e2, w2, n2⟩ := Zag h2
  obtain ⟨e3, w3, n3⟩ := Zag h3
  rw [← Zau] at n0 n1 n2 n3
  cases hd : decide (g = 0) with
  | true =>
    rw [hd, cond_true] at h
    exact ZsJ w0 n0 Q x (by rw [← e0]; exact h)
  | false =>
    rw [hd, cond_false] at h
    cases hd : decide (g = 1) with
    | true =>
      rw [hd, cond_true] at h
      exact Zss w1 n1 Q x (by rw [← e1]; exact h)
    | false =>
      rw [hd, cond_false] at h
      cases hd : decide (g = 2) with
      | true =>
        rw [hd, cond_true] at h
        exact ZrM w2 n2 Q x (by rw [← e2]; exact h)
      | false =>
        rw [hd, cond_false] at h
        exact Zsb w3 n3 Q x (by rw [← e3]; exact h)
theorem Zfe : Zad Tryz.prog 68 Zcp := o_of Tryz.func68 (by kernel_rfl) rfl fun ds Q h => by
  unfold Zcp at h; split at h
  · rename_i R0 p0 R1 p1 R2 p2 R3 p3
    obtain ⟨h1, h2⟩ := Zae h
    obtain ⟨a0, a1, a2, a3⟩ := Zdb h1
    refine ⟨_, ZaK (l := []) (m := [(5, Zp8 R0 p0 R1 p1 R2 p2 R3 p3)]) .nil mixed (ZpL rfl (by kernel_rfl) (by kernel_rfl) (Zpi a0 a1 a2 a3)) Tryz.func68 rfl rfl rfl ?_, rfl, rfl, h2⟩
    rw [Ztj]
    have key : ∀ p q : Bool, (p && q) = true → p = true := fun p q h => by simp at h; exact h.1
    simp only [amay, true_and]
    refine ⟨fun h _ => by rw [h]; rfl, fun h => ?_⟩
    rw [h]
    refine ⟨fun h _ => by rw [h]; rfl, fun h => ?_⟩
    rw [h]
    refine ⟨fun h _ => by rw [h]; rfl, fun h => ?_⟩
    rw [h]
    refine ⟨fun h _ => by rw [h]; rfl, fun h => ?_⟩
    rw [h]
    rfl
  · exact h.elim
def thr (n0 n1 n2 n3 : Nat) (lv num : Int) : Bool := bif lab lv then bif decide (num ≥ 0) then bif decide (lv = 0) then decide (num < (n0 : Int)) else bif decide (lv = 1) then decide (num < (n1 : Int)) else bif decide (lv = 2) then decide (num < (n2 : Int)) else decide (num < (n3 : Int)) else false else false
def sThr : Spec := fun ds Q => match ds with | [.c (.p 0 [.s 0 3 R0 p0, .s 0 3 R1 p1, .s 0 3 R2 p2, .s 0 3 R3 p3] 0), .c (.v (.int .i64 lv)), .c (.v (.int .i64 num))] => Q (B (thr R0.length R1.length R2.length R3.length lv num)) | _ => False
def Zeo : Spec := fun ds Q => match ds with | [.agg [.s 0 3 R0 p0, .s 0 3 R1 p1, .s 0 3 R2 p2, .s 0 3 R3 p3], .c (.v (.int .i64 lv)), .c (.v (.int .i64 num))] => Q (B (thr R0.length R1.length R2.length R3.length lv num)) | _ => False
theorem ZkM (n0 n1 n2 n3 : Nat) (lv num : Int) (K : DV → Prop) (h : K (B (thr n0 n1 n2 n3 lv num))) : bif lab lv then bif decide (num ≥ 0) then bif decide (lv = 0) then K (B (decide (num < (n0 : Int)))) else bif decide (lv = 1) then K (B (decide (num < (n1 : Int)))) else bif decide (lv = 2) then K (B (decide (num < (n2 : Int)))) else bif decide (lv = 3) then K (B (decide (num < (n3 : Int)))) else False else K (B false) else K (B false) := by
  unfold thr at h
  cases hl : lab lv with
  | false => rw [hl] at h; exact h
  | true =>
    rw [hl] at h
    have : decide (lv = 0) = false → decide (lv = 1) = false → decide (lv = 2) = false → decide (lv = 3) = true := fun h0 h1 h2 => by
      rcases ZdL hl with rfl | rfl | rfl | rfl <;> simp_all
    cases hn : decide (num ≥ 0) <;> rw [hn] at h <;> simp only [cond_true, cond_false] at h ⊢
    · exact h
    · cases h0 : decide (lv = 0) <;> rw [h0] at h <;> simp only [cond_true, cond_false] at h ⊢
      · cases h1 : decide (lv = 1) <;> rw [h1] at h <;> simp only [cond_true, cond_false] at h ⊢
        · cases h2 : decide (lv = 2) <;> rw [h2] at h <;> simp only [cond_true, cond_false] at h ⊢
          · rw [this h0 h1 h2]; exact h
          · exact h
        · exact h
      · exact h
theorem oThr : Zad Tryz.prog 157 sThr := o_of Tryz.func157 (by kernel_rfl) rfl fun ds Q h => by
  unfold sThr at h; split at h
  · refine ⟨_, Zaj (.cons oLab .nil) mixed Tryz.func157 rfl rfl rfl ?_, rfl, rfl, h⟩
    rw [eThr]
    exact ZkM _ _ _ _ _ _ (fun r => r = _) rfl
  · exact h.elim
theorem Ziy : Zad Tryz.prog 164 Zeo := o_of Tryz.func164 (by kernel_rfl) rfl fun ds Q h => by
  unfold Zeo at h; split at h
  · refine ⟨_, Zaj (.cons Zl2 .nil) mixed Tryz.func164 rfl rfl rfl ?_, rfl, rfl, h⟩
    rw [Ztz]
    exact ZkM _ _ _ _ _ _ (fun r => r = _) rfl
  · exact h.elim
end

section
open Go Go.Proofs
def selA {α : Type} (lv : Int) (a b c d : α) : α := bif decide (lv = 0) then a else bif decide (lv = 1) then b else bif decide (lv = 2) then c else d
def wrd (l : List (List Int)) (num : Int) : List Int := l.getD num.toNat []
def dW (r : List Int) : DV := .agg [vi (r.getD 0 0), vi (r.getD 1 0), vi (r.getD 2 0)]
abbrev dNil : DV := .agg [nilD, nilD, nilD, nilD]
abbrev dO (R0 R1 R2 R3 : List (List D)) : DV := .agg [.s 1 3 R0 [], .s 1 3 R1 [], .s 1 3 R2 [], .s 1 3 R3 []]
def gotA (a b c d : List (List Int)) (lv num : Int) (Q : DV → Prop) : Prop := cond (amay a b c d) (cond (thr a.length b.length c.length d.length lv num) (Q (.tup [dW (wrd (selA lv a b c d) num), I 0])) (Q (.tup [.agg [vi 0, vi 0, vi 0], I 400]))) (Q (.tup [.agg [vi 0, vi 0, vi 0], I 400]))
def sGet : Spec := fun ds Q => match ds with | [.agg [.s 0 3 R0 p0, .s 0 3 R1 p1, .s 0 3 R2 p2, .s 0 3 R3 p3], .c (.v (.int .i64 lv)), .c (.v (.int .i64 num))] => cond (okA R0 R1 R2 R3) (gotA (toZ R0) (toZ R1) (toZ R2) (toZ R3) lv num Q) False | _ => False
def okC (R : List (List D)) : Bool := allV R && decide (R.length ≤ 5864062014635)
def okC4 (R0 R1 R2 R3 : List (List D)) : Bool := okC R0 && (okC R1 && (okC R2 && okC R3))
theorem Zi0 {R0 R1 R2 R3 : List (List D)} (h : okC4 R0 R1 R2 R3 = true) : (allV R0 = true ∧ R0.length ≤ 5864062014635) ∧ (allV R1 = true ∧ R1.length ≤ 5864062014635) ∧ (allV R2 = true ∧ R2.length ≤ 5864062014635) ∧ (allV R3 = true ∧ R3.length ≤ 5864062014635) := by
  simpa [okC4, okC, Bool.and_eq_true] using h
def Zca : Spec := fun ds Q => match ds with | [.agg [.s 0 3 R0 p0, .s 0 3 R1 p1, .s 0 3 R2 p2, .s 0 3 R3 p3]] => cond (okC4 R0 R1 R2 R3) (Q (dO R0 R1 R2 R3)) False | _ => False
theorem ZrP (R0 p0 R1 p1 R2 p2 R3 p3 : List (List D)) (K : DV → Prop) : (ask Tryz.prog [(148, ZdC)] Tryz.f93 [dA R0 p0 R1 p1 R2 p2 R3 p3] K) = (bif allV R0 && decide (List.length R0 ≤ 5864062014635) then bif allV R1 && decide (List.length R1 ≤ 5864062014635) then bif allV R2 && decide (List.length R2 ≤ 5864062014635) then bif allV R3 && decide (List.length R3 ≤ 5864062014635) then bif decide (List.length R0 ≤ List.length (R0 ++ [])) && List.all (R0 ++ []) fun r => List.all r D.keeps then bif decide (List.length R1 ≤ List.length (R1 ++ [])) && List.all (R1 ++ []) fun r => List.all r D.keeps then bif decide (List.length R2 ≤ List.length (R2 ++ [])) && List.all (R2 ++ []) fun r => List.all r D.keeps then bif decide (List.length R3 ≤ List.length (R3 ++ [])) && List.all (R3 ++ []) fun r => List.all r D.keeps then K (DV.agg [D.s (1) (3) (List.take (List.length R0) (R0 ++ [])) (List.take (List.length R0 + 0 - List.length R0) (List.drop (List.length R0) (R0 ++ []))), D.s (1) (3) (List.take (List.length R1) (R1 ++ [])) (List.take (List.length R1 + 0 - List.length R1) (List.drop (List.length R1) (R1 ++ []))), D.s (1) (3) (List.take (List.length R2) (R2 ++ [])) (List.take (List.length R2 + 0 - List.length R2) (List.drop (List.length R2) (R2 ++ []))), D.s (1) (3) (List.take (List.length R3) (R3 ++ [])) (List.take (List.length R3 + 0 - List.length R3) (List.drop (List.length R3) (R3 ++ [])))]) else False else False else False else False else False else False else False else False) := by kernel_rfl
theorem ZsC (R0 p0 R1 p1 R2 p2 R3 p3 : List (List D)) (K : DV → Prop) : (ask Tryz.prog [] Tryz.f97 [dA R0 p0 R1 p1 R2 p2 R3 p3] K) = (bif allV R0 then bif true && (decide ((0 + List.length R0) * 24 ≤ 140737488355328) && decide (0 + List.length R0 ≤ 9223372036854775807)) then bif allV R1 then bif true && (decide ((0 + List.length R1) * 24 ≤ 140737488355328) && decide (0 + List.length R1 ≤ 9223372036854775807)) then bif allV R2 then bif true && (decide ((0 + List.length R2) * 24 ≤ 140737488355328) && decide (0 + List.length R2 ≤ 9223372036854775807)) then bif allV R3 then bif true && (decide ((0 + List.length R3) * 24 ≤ 140737488355328) && decide (0 + List.length R3 ≤ 9223372036854775807)) then bif decide (0 + List.length R0 ≤ List.length ([] ++ R0)) && List.all ([] ++ R0) fun r => List.all r D.keeps then bif decide (0 + List.length R1 ≤ List.length ([] ++ R1)) && List.all ([] ++ R1) fun r => List.all r D.keeps then bif decide (0 + List.length R2 ≤ List.length ([] ++ R2)) && List.all ([] ++ R2) fun r => List.all r D.keeps then bif decide (0 + List.length R3 ≤ List.length ([] ++ R3)) && List.all ([] ++ R3) fun r => List.all r D.keeps then K (DV.agg [D.s (1) (3) (List.take (0 + List.length R0) ([] ++ R0)) (List.take (0 + List.length R0 - (0 + List.length R0)) (List.drop (0 + List.length R0) ([] ++ R0))), D.s (1) (3) (List.take (0 + List.length R1) ([] ++ R1)) (List.take (0 + List.length R1 - (0 + List.length R1)) (List.drop (0 + List.length R1) ([] ++ R1))), D.s (1) (3) (List.take (0 + List.length R2) ([] ++ R2)) (List.take (0 + List.length R2 - (0 + List.length R2)) (List.drop (0 + List.length R2) ([] ++ R2))), D.s (1) (3) (List.take (0 + List.length R3) ([] ++ R3)) (List.take (0 + List.length R3 - (0 + List.length R3)) (List.drop (0 + List.length R3) ([] ++ R3)))]) else False else False else False else False else False else False else False else False else False else False else False else False) := by kernel_rfl
theorem ZqO {R0 R1 R2 R3 : List (List D)} (h0 : allV R0 = true) (h1 : allV R1 = true) (h2 : allV R2 = true) (h3 : allV R3 = true) : (dO R0 R1 R2 R3).pureOwn = true := by
  simp [DV.pureOwn, DV.pureOwn.go, DV.pure1, D.pureOwn, ownL, ZaA h0, ZaA h1, ZaA h2, ZaA h3, Zd8]
theorem ZiF : Zad Tryz.prog 93 Zca := o_of Tryz.func93 (by kernel_rfl) rfl fun ds Q h => by
  unfold Zca at h; split at h
  · rename_i R0 p0 R1 p1 R2 p2 R3 p3
    obtain ⟨h1, h2⟩ := Zae h
    obtain ⟨⟨a0, l0⟩, ⟨a1, l1⟩, ⟨a2, l2⟩, ⟨a3, l3⟩⟩ := Zi0 h1
    refine ⟨_, Zaj (.cons Zj4 .nil) mixed Tryz.func93 rfl rfl rfl ?_, ZqO a0 a1 a2 a3, rfl, h2⟩
    rw [ZrP]
    have g0 : R0.length * 24 ≤ 140737488355328 := by omega
    have g1 : R1.length * 24 ≤ 140737488355328 := by omega
    have g2 : R2.length * 24 ≤ 140737488355328 := by omega
    have g3 : R3.length * 24 ≤ 140737488355328 := by omega
    have k0 : R0.length ≤ 9223372036854775807 := by omega
    have k1 : R1.length ≤ 9223372036854775807 := by omega
    have k2 : R2.length ≤ 9223372036854775807 := by omega
    have k3 : R3.length ≤ 9223372036854775807 := by omega
    simp only [a0, a1, a2, a3, l0, l1, l2, l3, g0, g1, g2, g3, k0, k1, k2, k3, ZaD a0, ZaD a1, ZaD a2, ZaD a3, Nat.zero_add, Nat.add_zero, List.nil_append, List.append_nil, decide_true, Bool.and_self, Bool.true_and, cond_true, Nat.le_refl, List.take_length, List.drop_length, Nat.sub_self, List.take_nil, List.take_zero]
  · exact h.elim
theorem ZiM : Zad Tryz.prog 97 Zca := o_of Tryz.func97 (by kernel_rfl) rfl fun ds Q h => by
  unfold Zca at h; split at h
  · rename_i R0 p0 R1 p1 R2 p2 R3 p3
    obtain ⟨h1, h2⟩ := Zae h
    obtain ⟨⟨a0, l0⟩, ⟨a1, l1⟩, ⟨a2, l2⟩, ⟨a3, l3⟩⟩ := Zi0 h1
    refine ⟨_, Zaj (.nil) mixed Tryz.func97 rfl rfl rfl ?_, ZqO a0 a1 a2 a3, rfl, h2⟩
    rw [ZsC]
    have g0 : R0.length * 24 ≤ 140737488355328 := by omega
    have g1 : R1.length * 24 ≤ 140737488355328 := by omega
    have g2 : R2.length * 24 ≤ 140737488355328 := by omega
    have g3 : R3.length * 24 ≤ 140737488355328 := by omega
    have k0 : R0.length ≤ 9223372036854775807 := by omega
    have k1 : R1.length ≤ 9223372036854775807 := by omega
    have k2 : R2.length ≤ 9223372036854775807 := by omega
    have k3 : R3.length ≤ 9223372036854775807 := by omega
    simp only [a0, a1, a2, a3, l0, l1, l2, l3, g0, g1, g2, g3, k0, k1, k2, k3, ZaD a0, ZaD a1, ZaD a2, ZaD a3, Nat.zero_add, Nat.add_zero, List.nil_append, List.append_nil, decide_true, Bool.and_self, Bool.true_and, cond_true, Nat.le_refl, List.take_length, List.drop_length, Nat.sub_self, List.take_nil, List.take_zero]
  · exact h.elim
def w3 (a b c : Int) : List D := [vi a, vi b, vi c]
theorem ZoC {R0 R1 R2 R3 : List (List D)} (h0 : okZ 3 R0 = true) (h1 : okZ 3 R1 = true) (h2 : okZ 3 R2 = true) (h3 : okZ 3 R3 = true) (n : Int) : (DV.tup [dO R0 R1 R2 R3, I n]).pureOwn = true := by
  have := ZqO (Zbk h0) (Zbk h1) (Zbk h2) (Zbk h3)
  simp [DV.pureOwn, DV.pureOwn.go, DV.pure1, D.pureOwn, ownL, ZaA (Zbk h0), ZaA (Zbk h1), ZaA (Zbk h2), ZaA (Zbk h3), Zd8]
end

section
open Go Go.Proofs
def mL (l : List (List Int)) : List (List Int) := l.map fun r => [r.getD 0 0, 0, 0]
def mW (R : List (List D)) : List (List D) := mZ (mL (toZ R))
abbrev dV (R0 p0 R1 p1 R2 p2 R3 p3 : List (List D)) : DV := .agg [.s 0 1 R0 p0, .s 0 1 R1 p1, .s 0 1 R2 p2, .s 0 1 R3 p3]
def boxL (y : X) (k j : Nat) : Nat := match (rowOf y k).getD j .non with | .rs _ _ _ _ len _ => len | _ => 0
def stQ0 (R0 p0 R1 p1 R2 p2 R3 p3 : List (List D)) (e i : Int) : X := ⟨mkT 47 [(1, .c (.rp 2 0 4 0 0)), (2, .c (.rp 3 0 4 0 0)), (3, ai e), (4, .c (.rp 5 0 4 0 0)), (5, ai 0), (6, ai i)], [(2, .bx 0 4 [.d (.s 0 1 R0 p0), .d (.s 0 1 R1 p1), .d (.s 0 1 R2 p2), .d (.s 0 1 R3 p3)]), (3, .bx 0 4 [.d nilD, .d nilD, .d nilD, .d nilD]), (5, .bx 0 4 [.d nilD, .d nilD, .d nilD, .d nilD])], [], []⟩
def stM0 (R0 p0 R1 p1 R2 p2 R3 p3 : List (List D)) (W : List (List D)) (m : Nat) (e i : Int) : X := ⟨mkT 47 [(1, .c (.rp 2 0 4 0 0)), (2, .c (.rp 3 0 4 0 0)), (3, ai e), (4, .c (.rp 5 0 4 0 0)), (5, ai 0), (6, ai i)], [(2, .bx 0 4 [.d (.s 0 1 R0 p0), .d (.s 0 1 R1 p1), .d (.s 0 1 R2 p2), .d (.s 0 1 R3 p3)]), (3, .bx 0 4 [.d nilD, .d nilD, .d nilD, .d nilD]), (5, .bx 0 4 [.rs 2000000 0 3 0 m m, .d nilD, .d nilD, .d nilD]), (2000000, .sl 0 3 W)], [], []⟩
def vM0 (R0 p0 R1 p1 R2 p2 R3 p3 : List (List D)) (y : X) : X := stM0 R0 p0 R1 p1 R2 p2 R3 p3 (Zpx y 2000000) (boxL y 5 0) (Zdx y 3) (Zdx y 6)
theorem eM0r (R0 p0 R1 p1 R2 p2 R3 p3 : List (List D)) (W : List (List D)) (m : Nat) (e i : Int) (N : X → Prop) (E : Exit → X → Prop) : (ZaZ band bor Tryz.prog [(91, sB val8)] [] Tryz.f50 1 [1, 2, 3, 4, 5, 6] [2, 3, 5, 2000000] (vM0 R0 p0 R1 p1 R2 p2 R3 p3) (vM0 R0 p0 R1 p1 R2 p2 R3 p3) N E (stM0 R0 p0 R1 p1 R2 p2 R3 p3 W m e i)) = (bif decide (i < @Nat.cast Int _ (List.length R0)) then bif decide (i ≥ 4) then stM0 R0 p0 R1 p1 R2 p2 R3 p3 W m (400) i = stM0 R0 p0 R1 p1 R2 p2 R3 p3 W m (400) i ∧ E Exit.ret (stM0 R0 p0 R1 p1 R2 p2 R3 p3 W m (400) i) else bif decide (0 ≤ i) && decide (i < @Nat.cast Int _ (List.length R0)) then bif isJ [IntKind.i64] (List.drop (0) (List.getD R0 (Int.toNat i) [])) then bif !(decide (hdJ (List.drop (0) (List.getD R0 (Int.toNat i) [])) ≥ 0) && decide (hdJ (List.drop (0) (List.getD R0 (Int.toNat i) [])) ≤ 255)) then stM0 R0 p0 R1 p1 R2 p2 R3 p3 W m (400) i = stM0 R0 p0 R1 p1 R2 p2 R3 p3 W m (400) i ∧ E Exit.ret (stM0 R0 p0 R1 p1 R2 p2 R3 p3 W m (400) i) else bif decide (0 ≤ i) && decide (i < @Nat.cast Int _ (List.length R0)) then bif isJ [IntKind.i64] (List.drop (0) (List.getD R0 (Int.toNat i) [])) then bif decide (m ≤ List.length W) && (decide ((m + 1) * 24 ≤ 140737488355328) && decide (m + 1 ≤ 9223372036854775807)) then stM0 R0 p0 R1 p1 R2 p2 R3 p3 (List.take m W ++ [[D.v (Value.int IntKind.i64 (hdJ (List.drop (0) (List.getD R0 (Int.toNat i) [])))), D.v (Value.int IntKind.i64 (0)), D.v (Value.int IntKind.i64 (0))]]) (Nat.succ m) e (IntKind.wrap IntKind.i64 (i + 1)) = stM0 R0 p0 R1 p1 R2 p2 R3 p3 (List.take m W ++ [[D.v (Value.int IntKind.i64 (hdJ (List.drop (0) (List.getD R0 (Int.toNat i) [])))), D.v (Value.int IntKind.i64 (0)), D.v (Value.int IntKind.i64 (0))]]) (Nat.succ m) e (IntKind.wrap IntKind.i64 (i + 1)) ∧ N (stM0 R0 p0 R1 p1 R2 p2 R3 p3 (List.take m W ++ [[D.v (Value.int IntKind.i64 (hdJ (List.drop (0) (List.getD R0 (Int.toNat i) [])))), D.v (Value.int IntKind.i64 (0)), D.v (Value.int IntKind.i64 (0))]]) (Nat.succ m) e (IntKind.wrap IntKind.i64 (i + 1))) else False else False else False else False else False else stM0 R0 p0 R1 p1 R2 p2 R3 p3 W m e i = stM0 R0 p0 R1 p1 R2 p2 R3 p3 W m e i ∧ E (Exit.exit (2)) (stM0 R0 p0 R1 p1 R2 p2 R3 p3 W m e i)) := by kernel_rfl
def sM0 (R0 p0 R1 p1 R2 p2 R3 p3 : List (List D)) : LSum := fun Q x => x.only [1, 2, 3, 4, 5, 6] [2, 3, 5, 2000000] = stQ0 R0 p0 R1 p1 R2 p2 R3 p3 0 0 ∧ (Zax (toZ (mW R0)) = false → ∀ (W : List (List D)) (m : Nat) (i : Int), Q .ret (stM0 R0 p0 R1 p1 R2 p2 R3 p3 W m 400 i)) ∧ (Zax (toZ (mW R0)) = true → Q (.exit 2) (stM0 R0 p0 R1 p1 R2 p2 R3 p3 (mW R0) R0.length 0 R0.length))
def stQ1 (R0 p0 R1 p1 R2 p2 R3 p3 : List (List D)) (e i : Int) : X := ⟨mkT 47 [(1, .c (.rp 2 0 4 0 0)), (2, .c (.rp 3 0 4 0 0)), (3, ai e), (4, .c (.rp 5 0 4 0 0)), (5, ai 1), (6, ai i)], [(2, .bx 0 4 [.d (.s 0 1 R0 p0), .d (.s 0 1 R1 p1), .d (.s 0 1 R2 p2), .d (.s 0 1 R3 p3)]), (3, .bx 0 4 [.d nilD, .d nilD, .d nilD, .d nilD]), (5, .bx 0 4 [.rs 2000000 0 3 0 R0.length R0.length, .d nilD, .d nilD, .d nilD]), (2000000, .sl 0 3 (mW R0))], [], []⟩
def stM1 (R0 p0 R1 p1 R2 p2 R3 p3 : List (List D)) (W : List (List D)) (m : Nat) (e i : Int) : X := ⟨mkT 47 [(1, .c (.rp 2 0 4 0 0)), (2, .c (.rp 3 0 4 0 0)), (3, ai e), (4, .c (.rp 5 0 4 0 0)), (5, ai 1), (6, ai i)], [(2, .bx 0 4 [.d (.s 0 1 R0 p0), .d (.s 0 1 R1 p1), .d (.s 0 1 R2 p2), .d (.s 0 1 R3 p3)]), (3, .bx 0 4 [.d nilD, .d nilD, .d nilD, .d nilD]), (5, .bx 0 4 [.rs 2000000 0 3 0 R0.length R0.length, .rs 2000001 0 3 0 m m, .d nilD, .d nilD]), (2000000, .sl 0 3 (mW R0)), (2000001, .sl 0 3 W)], [], []⟩
def vM1 (R0 p0 R1 p1 R2 p2 R3 p3 : List (List D)) (y : X) : X := stM1 R0 p0 R1 p1 R2 p2 R3 p3 (Zpx y 2000001) (boxL y 5 1) (Zdx y 3) (Zdx y 6)
theorem eM1r (R0 p0 R1 p1 R2 p2 R3 p3 : List (List D)) (W : List (List D)) (m : Nat) (e i : Int) (N : X → Prop) (E : Exit → X → Prop) : (ZaZ band bor Tryz.prog [(91, sB val8)] [] Tryz.f50 1 [1, 2, 3, 4, 5, 6] [2, 3, 5, 2000000, 2000001] (vM1 R0 p0 R1 p1 R2 p2 R3 p3) (vM1 R0 p0 R1 p1 R2 p2 R3 p3) N E (stM1 R0 p0 R1 p1 R2 p2 R3 p3 W m e i)) = (bif decide (i < @Nat.cast Int _ (List.length R1)) then bif decide (i ≥ 4) then stM1 R0 p0 R1 p1 R2 p2 R3 p3 W m (400) i = stM1 R0 p0 R1 p1 R2 p2 R3 p3 W m (400) i ∧ E Exit.ret (stM1 R0 p0 R1 p1 R2 p2 R3 p3 W m (400) i) else bif decide (0 ≤ i) && decide (i < @Nat.cast Int _ (List.length R1)) then bif isJ [IntKind.i64] (List.drop (0) (List.getD R1 (Int.toNat i) [])) then bif !(decide (hdJ (List.drop (0) (List.getD R1 (Int.toNat i) [])) ≥ 0) && decide (hdJ (List.drop (0) (List.getD R1 (Int.toNat i) [])) ≤ 255)) then stM1 R0 p0 R1 p1 R2 p2 R3 p3 W m (400) i = stM1 R0 p0 R1 p1 R2 p2 R3 p3 W m (400) i ∧ E Exit.ret (stM1 R0 p0 R1 p1 R2 p2 R3 p3 W m (400) i) else bif decide (0 ≤ i) && decide (i < @Nat.cast Int _ (List.length R1)) then bif isJ [IntKind.i64] (List.drop (0) (List.getD R1 (Int.toNat i) [])) then bif decide (m ≤ List.length W) && (decide ((m + 1) * 24 ≤ 140737488355328) && decide (m + 1 ≤ 9223372036854775807)) then stM1 R0 p0 R1 p1 R2 p2 R3 p3 (List.take m W ++ [[D.v (Value.int IntKind.i64 (hdJ (List.drop (0) (List.getD R1 (Int.toNat i) [])))), D.v (Value.int IntKind.i64 (0)), D.v (Value.int IntKind.i64 (0))]]) (Nat.succ m) e (IntKind.wrap IntKind.i64 (i + 1)) = stM1 R0 p0 R1 p1 R2 p2 R3 p3 (List.take m W ++ [[D.v (Value.int IntKind.i64 (hdJ (List.drop (0) (List.getD R1 (Int.toNat i) [])))), D.v (Value.int IntKind.i64 (0)), D.v (Value.int IntKind.i64 (0))]]) (Nat.succ m) e (IntKind.wrap IntKind.i64 (i + 1)) ∧ N (stM1 R0 p0 R1 p1 R2 p2 R3 p3 (List.take m W ++ [[D.v (Value.int IntKind.i64 (hdJ (List.drop (0) (List.getD R1 (Int.toNat i) [])))), D.v (Value.int IntKind.i64 (0)), D.v (Value.int IntKind.i64 (0))]]) (Nat.succ m) e (IntKind.wrap IntKind.i64 (i + 1))) else False else False else False else False else False else stM1 R0 p0 R1 p1 R2 p2 R3 p3 W m e i = stM1 R0 p0 R1 p1 R2 p2 R3 p3 W m e i ∧ E (Exit.exit (2)) (stM1 R0 p0 R1 p1 R2 p2 R3 p3 W m e i)) := by kernel_rfl
def sM1 (R0 p0 R1 p1 R2 p2 R3 p3 : List (List D)) : LSum := fun Q x => x.only [1, 2, 3, 4, 5, 6] [2, 3, 5, 2000000, 2000001] = stQ1 R0 p0 R1 p1 R2 p2 R3 p3 0 0 ∧ (Zax (toZ (mW R1)) = false → ∀ (W : List (List D)) (m : Nat) (i : Int), Q .ret (stM1 R0 p0 R1 p1 R2 p2 R3 p3 W m 400 i)) ∧ (Zax (toZ (mW R1)) = true → Q (.exit 2) (stM1 R0 p0 R1 p1 R2 p2 R3 p3 (mW R1) R1.length 0 R1.length))
def stQ2 (R0 p0 R1 p1 R2 p2 R3 p3 : List (List D)) (e i : Int) : X := ⟨mkT 47 [(1, .c (.rp 2 0 4 0 0)), (2, .c (.rp 3 0 4 0 0)), (3, ai e), (4, .c (.rp 5 0 4 0 0)), (5, ai 2), (6, ai i)], [(2, .bx 0 4 [.d (.s 0 1 R0 p0), .d (.s 0 1 R1 p1), .d (.s 0 1 R2 p2), .d (.s 0 1 R3 p3)]), (3, .bx 0 4 [.d nilD, .d nilD, .d nilD, .d nilD]), (5, .bx 0 4 [.rs 2000000 0 3 0 R0.length R0.length, .rs 2000001 0 3 0 R1.length R1.length, .d nilD, .d nilD]), (2000000, .sl 0 3 (mW R0)), (2000001, .sl 0 3 (mW R1))], [], []⟩
def stM2 (R0 p0 R1 p1 R2 p2 R3 p3 : List (List D)) (W : List (List D)) (m : Nat) (e i : Int) : X := ⟨mkT 47 [(1, .c (.rp 2 0 4 0 0)), (2, .c (.rp 3 0 4 0 0)), (3, ai e), (4, .c (.rp 5 0 4 0 0)), (5, ai 2), (6, ai i)], [(2, .bx 0 4 [.d (.s 0 1 R0 p0), .d (.s 0 1 R1 p1), .d (.s 0 1 R2 p2), .d (.s 0 1 R3 p3)]), (3, .bx 0 4 [.d nilD, .d nilD, .d nilD, .d nilD]), (5, .bx 0 4 [.rs 2000000 0 3 0 R0.length R0.length, .rs 2000001 0 3 0 R1.length R1.length, .rs 2000002 0 3 0 m m, .d nilD]), (2000000, .sl 0 3 (mW R0)), (2000001, .sl 0 3 (mW R1)), (2000002, .sl 0 3 W)], [], []⟩
def vM2 (R0 p0 R1 p1 R2 p2 R3 p3 : List (List D)) (y : X) : X := stM2 R0 p0 R1 p1 R2 p2 R3 p3 (Zpx y 2000002) (boxL y 5 2) (Zdx y 3) (Zdx y 6)
theorem eM2r (R0 p0 R1 p1 R2 p2 R3 p3 : List (List D)) (W : List (List D)) (m : Nat) (e i : Int) (N : X → Prop) (E : Exit → X → Prop) : (ZaZ band bor Tryz.prog [(91, sB val8)] [] Tryz.f50 1 [1, 2, 3, 4, 5, 6] [2, 3, 5, 2000000, 2000001, 2000002] (vM2 R0 p0 R1 p1 R2 p2 R3 p3) (vM2 R0 p0 R1 p1 R2 p2 R3 p3) N E (stM2 R0 p0 R1 p1 R2 p2 R3 p3 W m e i)) = (bif decide (i < @Nat.cast Int _ (List.length R2)) then bif decide (i ≥ 4) then stM2 R0 p0 R1 p1 R2 p2 R3 p3 W m (400) i = stM2 R0 p0 R1 p1 R2 p2 R3 p3 W m (400) i ∧ E Exit.ret (stM2 R0 p0 R1 p1 R2 p2 R3 p3 W m (400) i) else bif decide (0 ≤ i) && decide (i < @Nat.cast Int _ (List.length R2)) then bif isJ [IntKind.i64] (List.drop (0) (List.getD R2 (Int.toNat i) [])) then bif !(decide (hdJ (List.drop (0) (List.getD R2 (Int.toNat i) [])) ≥ 0) && decide (hdJ (List.drop (0) (List.getD R2 (Int.toNat i) [])) ≤ 255)) then stM2 R0 p0 R1 p1 R2 p2 R3 p3 W m (400) i = stM2 R0 p0 R1 p1 R2 p2 R3 p3 W m (400) i ∧ E Exit.ret (stM2 R0 p0 R1 p1 R2 p2 R3 p3 W m (400) i) else bif decide (0 ≤ i) && decide (i < @Nat.cast Int _ (List.length R2)) then bif isJ [IntKind.i64] (List.drop (0) (List.getD R2 (Int.toNat i) [])) then bif decide (m ≤ List.length W) && (decide ((m + 1) * 24 ≤ 140737488355328) && decide (m + 1 ≤ 9223372036854775807)) then stM2 R0 p0 R1 p1 R2 p2 R3 p3 (List.take m W ++ [[D.v (Value.int IntKind.i64 (hdJ (List.drop (0) (List.getD R2 (Int.toNat i) [])))), D.v (Value.int IntKind.i64 (0)), D.v (Value.int IntKind.i64 (0))]]) (Nat.succ m) e (IntKind.wrap IntKind.i64 (i + 1)) = stM2 R0 p0 R1 p1 R2 p2 R3 p3 (List.take m W ++ [[D.v (Value.int IntKind.i64 (hdJ (List.drop (0) (List.getD R2 (Int.toNat i) [])))), D.v (Value.int IntKind.i64 (0)), D.v (Value.int IntKind.i64 (0))]]) (Nat.succ m) e (IntKind.wrap IntKind.i64 (i + 1)) ∧ N (stM2 R0 p0 R1 p1 R2 p2 R3 p3 (List.take m W ++ [[D.v (Value.int IntKind.i64 (hdJ (List.drop (0) (List.getD R2 (Int.toNat i) [])))), D.v (Value.int IntKind.i64 (0)), D.v (Value.int IntKind.i64 (0))]]) (Nat.succ m) e (IntKind.wrap IntKind.i64 (i + 1))) else False else False else False else False else False else stM2 R0 p0 R1 p1 R2 p2 R3 p3 W m e i = stM2 R0 p0 R1 p1 R2 p2 R3 p3 W m e i ∧ E (Exit.exit (2)) (stM2 R0 p0 R1 p1 R2 p2 R3 p3 W m e i)) := by kernel_rfl
def sM2 (R0 p0 R1 p1 R2 p2 R3 p3 : List (List D)) : LSum := fun Q x => x.only [1, 2, 3, 4, 5, 6] [2, 3, 5, 2000000, 2000001, 2000002] = stQ2 R0 p0 R1 p1 R2 p2 R3 p3 0 0 ∧ (Zax (toZ (mW R2)) = false → ∀ (W : List (List D)) (m : Nat) (i : Int), Q .ret (stM2 R0 p0 R1 p1 R2 p2 R3 p3 W m 400 i)) ∧ (Zax (toZ (mW R2)) = true → Q (.exit 2) (stM2 R0 p0 R1 p1 R2 p2 R3 p3 (mW R2) R2.length 0 R2.length))
def stQ3 (R0 p0 R1 p1 R2 p2 R3 p3 : List (List D)) (e i : Int) : X := ⟨mkT 47 [(1, .c (.rp 2 0 4 0 0)), (2, .c (.rp 3 0 4 0 0)), (3, ai e), (4, .c (.rp 5 0 4 0 0)), (5, ai 3), (6, ai i)], [(2, .bx 0 4 [.d (.s 0 1 R0 p0), .d (.s 0 1 R1 p1), .d (.s 0 1 R2 p2), .d (.s 0 1 R3 p3)]), (3, .bx 0 4 [.d nilD, .d nilD, .d nilD, .d nilD]), (5, .bx 0 4 [.rs 2000000 0 3 0 R0.length R0.length, .rs 2000001 0 3 0 R1.length R1.length, .rs 2000002 0 3 0 R2.length R2.length, .d nilD]), (2000000, .sl 0 3 (mW R0)), (2000001, .sl 0 3 (mW R1)), (2000002, .sl 0 3 (mW R2))], [], []⟩
def stM3 (R0 p0 R1 p1 R2 p2 R3 p3 : List (List D)) (W : List (List D)) (m : Nat) (e i : Int) : X := ⟨mkT 47 [(1, .c (.rp 2 0 4 0 0)), (2, .c (.rp 3 0 4 0 0)), (3, ai e), (4, .c (.rp 5 0 4 0 0)), (5, ai 3), (6, ai i)], [(2, .bx 0 4 [.d (.s 0 1 R0 p0), .d (.s 0 1 R1 p1), .d (.s 0 1 R2 p2), .d (.s 0 1 R3 p3)]), (3, .bx 0 4 [.d nilD, .d nilD, .d nilD, .d nilD]), (5, .bx 0 4 [.rs 2000000 0 3 0 R0.length R0.length, .rs 2000001 0 3 0 R1.length R1.length, .rs 2000002 0 3 0 R2.length R2.length, .rs 2000003 0 3 0 m m]), (2000000, .sl 0 3 (mW R0)), (2000001, .sl 0 3 (mW R1)), (2000002, .sl 0 3 (mW R2)), (2000003, .sl 0 3 W)], [], []⟩
def vM3 (R0 p0 R1 p1 R2 p2 R3 p3 : List (List D)) (y : X) : X := stM3 R0 p0 R1 p1 R2 p2 R3 p3 (Zpx y 2000003) (boxL y 5 3) (Zdx y 3) (Zdx y 6)
theorem eM3r (R0 p0 R1 p1 R2 p2 R3 p3 : List (List D)) (W : List (List D)) (m : Nat) (e i : Int) (N : X → Prop) (E : Exit → X → Prop) : (ZaZ band bor Tryz.prog [(91, sB val8)] [] Tryz.f50 1 [1, 2, 3, 4, 5, 6] [2, 3, 5, 2000000, 2000001, 2000002, 2000003] (vM3 R0 p0 R1 p1 R2 p2 R3 p3) (vM3 R0 p0 R1 p1 R2 p2 R3 p3) N E (stM3 R0 p0 R1 p1 R2 p2 R3 p3 W m e i)) = (bif decide (i < @Nat.cast Int _ (List.length R3)) then bif decide (i ≥ 4) then stM3 R0 p0 R1 p1 R2 p2 R3 p3 W m (400) i = stM3 R0 p0 R1 p1 R2 p2 R3 p3 W m (400) i ∧ E Exit.ret (stM3 R0 p0 R1 p1 R2 p2 R3 p3 W m (400) i) else bif decide (0 ≤ i) && decide (i < @Nat.cast Int _ (List.length R3)) then bif isJ [IntKind.i64] (List.drop (0) (List.getD R3 (Int.toNat i) [])) then bif !(decide (hdJ (List.drop (0) (List.getD R3 (Int.toNat i) [])) ≥ 0) && decide (hdJ (List.drop (0) (List.getD R3 (Int.toNat i) [])) ≤ 255)) then stM3 R0 p0 R1 p1 R2 p2 R3 p3 W m (400) i = stM3 R0 p0 R1 p1 R2 p2 R3 p3 W m (400) i ∧ E Exit.ret (stM3 R0 p0 R1 p1 R2 p2 R3 p3 W m (400) i) else bif decide (0 ≤ i) && decide (i < @Nat.cast Int _ (List.length R3)) then bif isJ [IntKind.i64] (List.drop (0) (List.getD R3 (Int.toNat i) [])) then bif decide (m ≤ List.length W) && (decide ((m + 1) * 24 ≤ 140737488355328) && decide (m + 1 ≤ 9223372036854775807)) then stM3 R0 p0 R1 p1 R2 p2 R3 p3 (List.take m W ++ [[D.v (Value.int IntKind.i64 (hdJ (List.drop (0) (List.getD R3 (Int.toNat i) [])))), D.v (Value.int IntKind.i64 (0)), D.v (Value.int IntKind.i64 (0))]]) (Nat.succ m) e (IntKind.wrap IntKind.i64 (i + 1)) = stM3 R0 p0 R1 p1 R2 p2 R3 p3 (List.take m W ++ [[D.v (Value.int IntKind.i64 (hdJ (List.drop (0) (List.getD R3 (Int.toNat i) [])))), D.v (Value.int IntKind.i64 (0)), D.v (Value.int IntKind.i64 (0))]]) (Nat.succ m) e (IntKind.wrap IntKind.i64 (i + 1)) ∧ N (stM3 R0 p0 R1 p1 R2 p2 R3 p3 (List.take m W ++ [[D.v (Value.int IntKind.i64 (hdJ (List.drop (0) (List.getD R3 (Int.toNat i) [])))), D.v (Value.int IntKind.i64 (0)), D.v (Value.int IntKind.i64 (0))]]) (Nat.succ m) e (IntKind.wrap IntKind.i64 (i + 1))) else False else False else False else False else False else stM3 R0 p0 R1 p1 R2 p2 R3 p3 W m e i = stM3 R0 p0 R1 p1 R2 p2 R3 p3 W m e i ∧ E (Exit.exit (2)) (stM3 R0 p0 R1 p1 R2 p2 R3 p3 W m e i)) := by kernel_rfl
def sM3 (R0 p0 R1 p1 R2 p2 R3 p3 : List (List D)) : LSum := fun Q x => x.only [1, 2, 3, 4, 5, 6] [2, 3, 5, 2000000, 2000001, 2000002, 2000003] = stQ3 R0 p0 R1 p1 R2 p2 R3 p3 0 0 ∧ (Zax (toZ (mW R3)) = false → ∀ (W : List (List D)) (m : Nat) (i : Int), Q .ret (stM3 R0 p0 R1 p1 R2 p2 R3 p3 W m 400 i)) ∧ (Zax (toZ (mW R3)) = true → Q (.exit 2) (stM3 R0 p0 R1 p1 R2 p2 R3 p3 (mW R3) R3.length 0 R3.length))
def Zf3 (R0 p0 R1 p1 R2 p2 R3 p3 : List (List D)) : LSum := fun Q x => Zpe x 5 fun g =>
  cond (decide (g = 0)) (sM0 R0 p0 R1 p1 R2 p2 R3 p3 Q x) (cond (decide (g = 1)) (sM1 R0 p0 R1 p1 R2 p2 R3 p3 Q x) (cond (decide (g = 2)) (sM2 R0 p0 R1 p1 R2 p2 R3 p3 Q x) (sM3 R0 p0 R1 p1 R2 p2 R3 p3 Q x)))
theorem ZsX (R0 p0 R1 p1 R2 p2 R3 p3 : List (List D)) (K : DV → Prop) : (askL Tryz.prog [(91, sB val8)] [(6, Zf3 R0 p0 R1 p1 R2 p2 R3 p3)] Tryz.f50 [dV R0 p0 R1 p1 R2 p2 R3 p3] K) = (stQ0 R0 p0 R1 p1 R2 p2 R3 p3 (0) (0) = stQ0 R0 p0 R1 p1 R2 p2 R3 p3 (0) (0) ∧ (Zax (toZ (mW R0)) = false → ∀ (W : List (List D)) (m : Nat) (i : Int), K (DV.tup [DV.agg [D.v (Value.slice none (0) (0)), D.v (Value.slice none (0) (0)), D.v (Value.slice none (0) (0)), D.v (Value.slice none (0) (0))], DV.c (D.v (Value.int IntKind.i64 (400)))])) ∧ (Zax (toZ (mW R0)) = true → stQ1 R0 p0 R1 p1 R2 p2 R3 p3 (0) (0) = stQ1 R0 p0 R1 p1 R2 p2 R3 p3 (0) (0) ∧ (Zax (toZ (mW R1)) = false → ∀ (W : List (List D)) (m : Nat) (i : Int), K (DV.tup [DV.agg [D.v (Value.slice none (0) (0)), D.v (Value.slice none (0) (0)), D.v (Value.slice none (0) (0)), D.v (Value.slice none (0) (0))], DV.c (D.v (Value.int IntKind.i64 (400)))])) ∧ (Zax (toZ (mW R1)) = true → stQ2 R0 p0 R1 p1 R2 p2 R3 p3 (0) (0) = stQ2 R0 p0 R1 p1 R2 p2 R3 p3 (0) (0) ∧ (Zax (toZ (mW R2)) = false → ∀ (W : List (List D)) (m : Nat) (i : Int), K (DV.tup [DV.agg [D.v (Value.slice none (0) (0)), D.v (Value.slice none (0) (0)), D.v (Value.slice none (0) (0)), D.v (Value.slice none (0) (0))], DV.c (D.v (Value.int IntKind.i64 (400)))])) ∧ (Zax (toZ (mW R2)) = true → stQ3 R0 p0 R1 p1 R2 p2 R3 p3 (0) (0) = stQ3 R0 p0 R1 p1 R2 p2 R3 p3 (0) (0) ∧ (Zax (toZ (mW R3)) = false → ∀ (W : List (List D)) (m : Nat) (i : Int), K (DV.tup [DV.agg [D.v (Value.slice none (0) (0)), D.v (Value.slice none (0) (0)), D.v (Value.slice none (0) (0)), D.v (Value.slice none (0) (0))], DV.c (D.v (Value.int IntKind.i64 (400)))])) ∧ (Zax (toZ (mW R3)) = true → bif decide (List.length R0 ≤ List.length (mW R0)) && List.all (mW R0) fun r => List.all r D.keeps then bif decide (List.length R1 ≤ List.length (mW R1)) && List.all (mW R1) fun r => List.all r D.keeps then bif decide (List.length R2 ≤ List.length (mW R2)) && List.all (mW R2) fun r => List.all r D.keeps then bif decide (List.length R3 ≤ List.length (mW R3)) && List.all (mW R3) fun r => List.all r D.keeps then K (DV.tup [DV.agg [D.s (1) (3) (List.take (List.length R0) (mW R0)) (List.take (List.length R0 - List.length R0) (List.drop (List.length R0) (mW R0))), D.s (1) (3) (List.take (List.length R1) (mW R1)) (List.take (List.length R1 - List.length R1) (List.drop (List.length R1) (mW R1))), D.s (1) (3) (List.take (List.length R2) (mW R2)) (List.take (List.length R2 - List.length R2) (List.drop (List.length R2) (mW R2))), D.s (1) (3) (List.take (List.length R3) (mW R3)) (List.take (List.length R3 - List.length R3) (List.drop (List.length R3) (mW R3)))], DV.c (D.v (Value.int IntKind.i64 (0)))]) else False else False else False else False))))) := by kernel_rfl
theorem Zbb (l : List (List Int)) : (mL l).length = l.length := by simp [mL]
theorem ZpY (R : List (List D)) : (mW R).length = R.length := by simp [mW, Zaf, Zbb, Zau]
theorem ZhL (l : List (List Int)) {i : Nat} (hi : i < l.length) : List.take i (mZ (mL (l.take i))) ++ [[D.v (Value.int IntKind.i64 ((l.getD i []).getD 0 0)), D.v (Value.int IntKind.i64 0), D.v (Value.int IntKind.i64 0)]] = mZ (mL (l.take (i + 1))) := by
  rw [List.take_of_length_le (by rw [Zaf, Zbb, List.length_take]; omega)]
  have : l.take (i + 1) = l.take i ++ [l.getD i []] := by
    rw [List.take_add_one, List.getD_eq_getElem?_getD]
    congr 1
    rw [List.getElem?_eq_getElem hi]; rfl
  rw [this]
  simp [mZ, mL]
theorem ZkL (l : List (List Int)) {i : Nat} (hi : i < l.length) : (mL l).getD i [] = [(l.getD i []).getD 0 0, 0, 0] := by
  simp [mL, List.getD_eq_getElem?_getD, hi]
theorem ZhB (v : Int) : Zbj [v, 0, 0] = val8 v := by
  have h1 : clk 0 = true := rfl
  have h2 : upto 0 0 255 = true := rfl
  simp [Zbj, wmay, h1, h2]
theorem Zsx (l : List (List Int)) : wid 3 (mL l) := fun r hr => by
  obtain ⟨r0, _, rfl⟩ := List.mem_map.1 hr
  rfl
theorem ZcT (R : List (List D)) : toZ (mW R) = mL (toZ R) := ZbY _
theorem ZkR {R : List (List D)} (h : okZ 1 R = true) : okZ 3 (mW R) = true := Zdo (Zsx _) (by rw [Zbb, Zau]; exact (Zag h).2.2)
theorem Zu3 {R0 p0 R1 p1 R2 p2 R3 p3 : List (List D)} (hR : okZ 1 R0 = true) (hn : R0.length ≤ 5864062014635) (Q : Exit → X → Prop) (x : X) (h : sM0 R0 p0 R1 p1 R2 p2 R3 p3 Q x) : XWP Tryz.prog (.loop (Zan Tryz.f50 1)) Q x := by
  obtain ⟨h1, h2, h3⟩ := h
  obtain ⟨el, hw, _⟩ := Zag hR
  have hl' : (toZ R0).length = R0.length := Zau _
  refine Zdh [1, 2, 3, 4, 5, 6] [2, 3, 5, 2000000] (ZdN [1, 2, 3, 4, 5, 6] [2, 3, 5, 2000000] ?_)
  rw [h1]
  refine Ze1 (kb := 5) (j := 0) (kn := 2000000) (wd := 3) rfl ?_
  refine ZaM (ι := Nat) (H := hkA band bor [(91, sB val8)] []) (fn := Tryz.f50) (i := 1) (ts := [1, 2, 3, 4, 5, 6]) (ks := [2, 3, 5, 2000000]) (ZaI (.cons Zfn .nil)) mixed (Zah rfl)
    (fun i => stM0 R0 p0 R1 p1 R2 p2 R3 p3 (mZ (mL ((toZ R0).take i))) i 0 i) (fun i => i ≤ R0.length ∧ i ≤ 4 ∧ ∀ j, j < i → Zbj ((mL (toZ R0)).getD j []) = true) (fun i => R0.length - i) 0 (vM0 R0 p0 R1 p1 R2 p2 R3 p3) (vM0 R0 p0 R1 p1 R2 p2 R3 p3) (fun i hp => ?_) ⟨Nat.zero_le _, Nat.zero_le _, fun j hj => by omega⟩ (by kernel_rfl)
  obtain ⟨hi, h4, hj⟩ := hp
  show ZaZ band bor Tryz.prog _ _ Tryz.f50 1 _ _ _ _ _ _ _
  rw [eM0r]
  by_cases hl : i < R0.length
  · by_cases h4' : i = 4
    · have e4 : decide ((i : Int) ≥ 4) = true := by simp; omega
      simp only [Int.ofNat_lt, hl, decide_true, cond_true, e4, true_and]
      exact h2 (by rw [ZcT]; exact Za9 (by rw [Zbb]; omega)) _ _ _
    · have e4 : decide ((i : Int) ≥ 4) = false := by simp; omega
      have wi : IntKind.wrap .i64 ((i : Int) + 1) = ((i + 1 : Nat) : Int) := Zat (n := 1) (by omega)
      have hll : i < (toZ R0).length := by omega
      have hj1 : isJ [IntKind.i64] ((R0).getD i []) = true := by
        rw [el]; exact Zav (j := 0) (n := 1) hw hll (by omega)
      have hv : hdJ (R0.getD i []) = ((toZ R0).getD i []).getD 0 0 := by
        rw [show R0.getD i [] = (mZ (toZ R0)).getD i [] by rw [← el], ZaB]
      have hlen : (mZ (mL ((toZ R0).take i))).length = i := by rw [Zaf, Zbb, List.length_take]; omega
      have b1 : (i + 1) * 24 ≤ 140737488355328 := by omega
      have b2 : i + 1 ≤ 9223372036854775807 := by omega
      simp only [Int.ofNat_lt, hl, decide_true, cond_true, cond_false, e4, Int.natCast_nonneg, Bool.and_self, Int.toNat_natCast, hj1, List.drop_zero, hv, true_and, wi, hlen, b1, b2, Nat.le_refl, ZhL _ hll]
      have eo : Zbj ((mL (toZ R0)).getD i []) = (decide (((toZ R0).getD i []).getD 0 0 ≥ 0) && decide (((toZ R0).getD i []).getD 0 0 ≤ 255)) := by
        rw [ZkL _ hll, ZhB]; rfl
      rw [← eo]
      cases ho : Zbj ((mL (toZ R0)).getD i []) with
      | false =>
        exact h2 (by rw [ZcT]; exact ZaY (by rw [Zbb]; exact hll) ho) _ _ _
      | true =>
        refine ⟨i + 1, by omega, ⟨hl, by omega, fun j hji => ?_⟩, rfl⟩
        rcases Nat.lt_succ_iff_lt_or_eq.1 hji with hji | rfl
        · exact hj j hji
        · exact ho
  · have e : i = R0.length := by omega
    subst e
    simp only [Int.ofNat_lt, Nat.lt_irrefl, decide_false, cond_false, true_and]
    rw [List.take_of_length_le (by omega)]
    exact h3 (by rw [ZcT]; exact Zbr (by rw [Zbb]; omega) (fun j hj' => hj j (by rw [Zbb] at hj'; omega)))
theorem Zud {R0 p0 R1 p1 R2 p2 R3 p3 : List (List D)} (hR : okZ 1 R1 = true) (hn : R1.length ≤ 5864062014635) (Q : Exit → X → Prop) (x : X) (h : sM1 R0 p0 R1 p1 R2 p2 R3 p3 Q x) : XWP Tryz.prog (.loop (Zan Tryz.f50 1)) Q x := by
  obtain ⟨h1, h2, h3⟩ := h
  obtain ⟨el, hw, _⟩ := Zag hR
  have hl' : (toZ R1).length = R1.length := Zau _
  refine Zdh [1, 2, 3, 4, 5, 6] [2, 3, 5, 2000000, 2000001] (ZdN [1, 2, 3, 4, 5, 6] [2, 3, 5, 2000000, 2000001] ?_)
  rw [h1]
  refine Ze1 (kb := 5) (j := 1) (kn := 2000001) (wd := 3) rfl ?_
  refine ZaM (ι := Nat) (H := hkA band bor [(91, sB val8)] []) (fn := Tryz.f50) (i := 1) (ts := [1, 2, 3, 4, 5, 6]) (ks := [2, 3, 5, 2000000, 2000001]) (ZaI (.cons Zfn .nil)) mixed (Zah rfl)
    (fun i => stM1 R0 p0 R1 p1 R2 p2 R3 p3 (mZ (mL ((toZ R1).take i))) i 0 i) (fun i => i ≤ R1.length ∧ i ≤ 4 ∧ ∀ j, j < i → Zbj ((mL (toZ R1)).getD j []) = true) (fun i => R1.length - i) 0 (vM1 R0 p0 R1 p1 R2 p2 R3 p3) (vM1 R0 p0 R1 p1 R2 p2 R3 p3) (fun i hp => ?_) ⟨Nat.zero_le _, Nat.zero_le _, fun j hj => by omega⟩ (by kernel_rfl)
  obtain ⟨hi, h4, hj⟩ := hp
  show ZaZ band bor Tryz.prog _ _ Tryz.f50 1 _ _ _ _ _ _ _
  rw [eM1r]
  by_cases hl : i < R1.length
  · by_cases h4' : i = 4
    · have e4 : decide ((i : Int) ≥ 4) = true := by simp; omega
      simp only [Int.ofNat_lt, hl, decide_true, cond_true, e4, true_and]
      exact h2 (by rw [ZcT]; exact Za9 (by rw [Zbb]; omega)) _ _ _
    · have e4 : decide ((i : Int) ≥ 4) = false := by simp; omega
      have wi : IntKind.wrap .i64 ((i : Int) + 1) = ((i + 1 : Nat) : Int) := Zat (n := 1) (by omega)
      have hll : i < (toZ R1).length := by omega
      have hj1 : isJ [IntKind.i64] ((R1).getD i []) = true := by
        rw [el]; exact Zav (j := 0) (n := 1) hw hll (by omega)
      have hv : hdJ (R1.getD i []) = ((toZ R1).getD i []).getD 0 0 := by
        rw [show R1.getD i [] = (mZ (toZ R1)).getD i [] by rw [← el], ZaB]
      have hlen : (mZ (mL ((toZ R1).take i))).length = i := by rw [Zaf, Zbb, List.length_take]; omega
      have b1 : (i + 1) * 24 ≤ 140737488355328 := by omega
      have b2 : i + 1 ≤ 9223372036854775807 := by omega
      simp only [Int.ofNat_lt, hl, decide_true, cond_true, cond_false, e4, Int.natCast_nonneg, Bool.and_self, Int.toNat_natCast, hj1, List.drop_zero, hv, true_and, wi, hlen, b1, b2, Nat.le_refl, ZhL _ hll]
      have eo : Zbj ((mL (toZ R1)).getD i []) = (decide (((toZ R1).getD i []).getD 0 0 ≥ 0) && decide (((toZ R1).getD i []).getD 0 0 ≤ 255)) := by
        rw [ZkL _ hll, ZhB]; rfl
      rw [← eo]
      cases ho : Zbj ((mL (toZ R1)).getD i []) with
      | false =>
        exact h2 (by rw [ZcT]; exact ZaY (by rw [Zbb]; exact hll) ho) _ _ _
      | true =>
        refine ⟨i + 1, by omega, ⟨hl, by omega, fun j hji => ?_⟩, rfl⟩
        rcases Nat.lt_succ_iff_lt_or_eq.1 hji with hji | rfl
        · exact hj j hji
        · exact ho
  · have e : i = R1.length := by omega
    subst e
    simp only [Int.ofNat_lt, Nat.lt_irrefl, decide_false, cond_false, true_and]
    rw [List.take_of_length_le (by omega)]
    exact h3 (by rw [ZcT]; exact Zbr (by rw [Zbb]; omega) (fun j hj' => hj j (by rw [Zbb] at hj'; omega)))
theorem ZtF {R0 p0 R1 p1 R2 p2 R3 p3 : List (List D)} (hR : okZ 1 R2 = true) (hn : R2.length ≤ 5864062014635) (Q : Exit → X → Prop) (x : X) (h : sM2 R0 p0 R1 p1 R2 p2 R3 p3 Q x) : XWP Tryz.prog (.loop (Zan Tryz.f50 1)) Q x := by
  obtain ⟨h1, h2, h3⟩ := h
  obtain ⟨el, hw, _⟩ := Zag hR
  have hl' : (toZ R2).length = R2.length := Zau _
  refine Zdh [1, 2, 3, 4, 5, 6] [2, 3, 5, 2000000, 2000001, 2000002] (ZdN [1, 2, 3, 4, 5, 6] [2, 3, 5, 2000000, 2000001, 2000002] ?_)
  rw [h1]
  refine Ze1 (kb := 5) (j := 2) (kn := 2000002) (wd := 3) rfl ?_
  refine ZaM (ι := Nat) (H := hkA band bor [(91, sB val8)] []) (fn := Tryz.f50) (i := 1) (ts := [1, 2, 3, 4, 5, 6]) (ks := [2, 3, 5, 2000000, 2000001, 2000002]) (ZaI (.cons Zfn .nil)) mixed (Zah rfl)
    (fun i => stM2 R0 p0 R1 p1 R2 p2 R3 p3 (mZ (mL ((toZ R2).take i))) i 0 i) (fun i => i ≤ R2.length ∧ i ≤ 4 ∧ ∀ j, j < i → Zbj ((mL (toZ R2)).getD j []) = true) (fun i => R2.length - i) 0 (vM2 R0 p0 R1 p1 R2 p2 R3 p3) (vM2 R0 p0 R1 p1 R2 p2 R3 p3) (fun i hp => ?_) ⟨Nat.zero_le _, Nat.zero_le _, fun j hj => by omega⟩ (by kernel_rfl)
  obtain ⟨hi, h4, hj⟩ := hp
  show ZaZ band bor Tryz.prog _ _ Tryz.f50 1 _ _ _ _ _ _ _
  rw [eM2r]
  by_cases hl : i < R2.length
  · by_cases h4' : i = 4
    · have e4 : decide ((i : Int) ≥ 4) = true := by simp; omega
      simp only [Int.ofNat_lt, hl, decide_true, cond_true, e4, true_and]
      exact h2 (by rw [ZcT]; exact Za9 (by rw [Zbb]; omega)) _ _ _
    · have e4 : decide ((i : Int) ≥ 4) = false := by simp; omega
      have wi : IntKind.wrap .i64 ((i : Int) + 1) = ((i + 1 : Nat) : Int) := Zat (n := 1) (by omega)
      have hll : i < (toZ R2).length := by omega
      have hj1 : isJ [IntKind.i64] ((R2).getD i []) = true := by
        rw [el]; exact Zav (j := 0) (n := 1) hw hll (by omega)
      have hv : hdJ (R2.getD i []) = ((toZ R2).getD i []).getD 0 0 := by
        rw [show R2.getD i [] = (mZ (toZ R2)).getD i [] by rw [← el], ZaB]
      have hlen : (mZ (mL ((toZ R2).take i))).length = i := by rw [Zaf, Zbb, List.length_take]; omega
      have b1 : (i + 1) * 24 ≤ 140737488355328 := by omega
      have b2 : i + 1 ≤ 9223372036854775807 := by omega
      simp only [Int.ofNat_lt, hl, decide_true, cond_true, cond_false, e4, Int.natCast_nonneg, Bool.and_self, Int.toNat_natCast, hj1, List.drop_zero, hv, true_and, wi, hlen, b1, b2, Nat.le_refl, ZhL _ hll]
      have eo : Zbj ((mL (toZ R2)).getD i []) = (decide (((toZ R2).getD i []).getD 0 0 ≥ 0) && decide (((toZ R2).getD i []).getD 0 0 ≤ 255)) := by
        rw [ZkL _ hll, ZhB]; rfl
      rw [← eo]
      cases ho : Zbj ((mL (toZ R2)).getD i []) with
      | false =>
        exact h2 (by rw [ZcT]; exact ZaY (by rw [Zbb]; exact hll) ho) _ _ _
      | true =>
        refine ⟨i + 1, by omega, ⟨hl, by omega, fun j hji => ?_⟩, rfl⟩
        rcases Nat.lt_succ_iff_lt_or_eq.1 hji with hji | rfl
        · exact hj j hji
        · exact ho
  · have e : i = R2.length := by omega
    subst e
    simp only [Int.ofNat_lt, Nat.lt_irrefl, decide_false, cond_false, true_and]
    rw [List.take_of_length_le (by omega)]
    exact h3 (by rw [ZcT]; exact Zbr (by rw [Zbb]; omega) (fun j hj' => hj j (by rw [Zbb] at hj'; omega)))
theorem Zuz {R0 p0 R1 p1 R2 p2 R3 p3 : List (List D)} (hR : okZ 1 R3 = true) (hn : R3.length ≤ 5864062014635) (Q : Exit → X → Prop) (x : X) (h : sM3 R0 p0 R1 p1 R2 p2 R3 p3 Q x) : XWP Tryz.prog (.loop (Zan Tryz.f50 1)) Q x := by
  obtain ⟨h1, h2, h3⟩ := h
  obtain ⟨el, hw, _⟩ := Zag hR
  have hl' : (toZ R3).length = R3.length := Zau _
  refine Zdh [1, 2, 3, 4, 5, 6] [2, 3, 5, 2000000, 2000001, 2000002, 2000003] (ZdN [1, 2, 3, 4, 5, 6] [2, 3, 5, 2000000, 2000001, 2000002, 2000003] ?_)
  rw [h1]
  refine Ze1 (kb := 5) (j := 3) (kn := 2000003) (wd := 3) rfl ?_
  refine ZaM (ι := Nat) (H := hkA band bor [(91, sB val8)] []) (fn := Tryz.f50) (i := 1) (ts := [1, 2, 3, 4, 5, 6]) (ks := [2, 3, 5, 2000000, 2000001, 2000002, 2000003]) (ZaI (.cons Zfn .nil)) mixed (Zah rfl)
    (fun i => stM3 R0 p0 R1 p1 R2 p2 R3 p3 (mZ (mL ((toZ R3).take i))) i 0 i) (fun i => i ≤ R3.length ∧ i ≤ 4 ∧ ∀ j, j < i → Zbj ((mL (toZ R3)).getD j []) = true) (fun i => R3.length - i) 0 (vM3 R0 p0 R1 p1 R2 p2 R3 p3) (vM3 R0 p0 R1 p1 R2 p2 R3 p3) (fun i hp => ?_) ⟨Nat.zero_le _, Nat.zero_le _, fun j hj => by omega⟩ (by kernel_rfl)
  obtain ⟨hi, h4, hj⟩ := hp
  show ZaZ band bor Tryz.prog _ _ Tryz.f50 1 _ _ _ _ _ _ _
  rw [eM3r]
  by_cases hl : i < R3.length
  · by_cases h4' : i = 4
    · have e4 : decide ((i : Int) ≥ 4) = true := by simp; omega
      simp only [Int.ofNat_lt, hl, decide_true, cond_true, e4, true_and]
      exact h2 (by rw [ZcT]; exact Za9 (by rw [Zbb]; omega)) _ _ _
    · have e4 : decide ((i : Int) ≥ 4) = false := by simp; omega
      have wi : IntKind.wrap .i64 ((i : Int) + 1) = ((i + 1 : Nat) : Int) := Zat (n := 1) (by omega)
      have hll : i < (toZ R3).length := by omega
      have hj1 : isJ [IntKind.i64] ((R3).getD i []) = true := by
        rw [el]; exact Zav (j := 0) (n := 1) hw hll (by omega)
      have hv : hdJ (R3.getD i []) = ((toZ R3).getD i []).getD 0 0 := by
        rw [show R3.getD i [] = (mZ (toZ R3)).getD i [] by rw [← el], ZaB]
      have hlen : (mZ (mL ((toZ R3).take i))).length = i := by rw [Zaf, Zbb, List.length_take]; omega
      have b1 : (i + 1) * 24 ≤ 140737488355328 := by omega
      have b2 : i + 1 ≤ 9223372036854775807 := by omega
      simp only [Int.ofNat_lt, hl, decide_true, cond_true, cond_false, e4, Int.natCast_nonneg, Bool.and_self, Int.toNat_natCast, hj1, List.drop_zero, hv, true_and, wi, hlen, b1, b2, Nat.le_refl, ZhL _ hll]
      have eo : Zbj ((mL (toZ R3)).getD i []) = (decide (((toZ R3).getD i []).getD 0 0 ≥ 0) && decide (((toZ R3).getD i []).getD 0 0 ≤ 255)) := by
        rw [ZkL _ hll, ZhB]; rfl
      rw [← eo]
      cases ho : Zbj ((mL (toZ R3)).getD i []) with
      | false =>
        exact h2 (by rw [ZcT]; exact ZaY (by rw [Zbb]; exact hll) ho) _ _ _
      | true =>
        refine ⟨i + 1, by omega, ⟨hl, by omega, fun j hji => ?_⟩, rfl⟩
        rcases Nat.lt_succ_iff_lt_or_eq.1 hji with hji | rfl
        · exact hj j hji
        · exact ho
  · have e : i = R3.length := by omega
    subst e
    simp only [Int.ofNat_lt, Nat.lt_irrefl, decide_false, cond_false, true_and]
    rw [List.take_of_length_le (by omega)]
    exact h3 (by rw [ZcT]; exact Zbr (by rw [Zbb]; omega) (fun j hj' => hj j (by rw [Zbb] at hj'; omega)))
theorem ZlH {R0 p0 R1 p1 R2 p2 R3 p3 : List (List D)} (h0 : okZ 1 R0 = true) (h1 : okZ 1 R1 = true) (h2 : okZ 1 R2 = true) (h3 : okZ 1 R3 = true) (l0 : R0.length ≤ 5864062014635) (l1 : R1.length ≤ 5864062014635) (l2 : R2.length ≤ 5864062014635) (l3 : R3.length ≤ 5864062014635) (Q : Exit → X → Prop) (x : X) (h : Zf3 R0 p0 R1 p1 R2 p2 R3 p3 Q x) : XWP Tryz.prog (.loop (Zan Tryz.f50 1)) Q x := by
  obtain ⟨g, h⟩ := ZgZ h
  cases hd : decide (g = 0) with
  | true =>
    rw [hd, cond_true] at h
    exact Zu3 h0 l0 Q x h
  | false =>
    rw [hd, cond_false] at h
    cases hd : decide (g = 1) with
    | true =>
      rw [hd, cond_true] at h
      exact Zud h1 l1 Q x h
    | false =>
      rw [hd, cond_false] at h
      cases hd : decide (g = 2) with
      | true =>
        rw [hd, cond_true] at h
        exact ZtF h2 l2 Q x h
      | false =>
        rw [hd, cond_false] at h
        exact Zuz h3 l3 Q x h
def okV (R : List (List D)) : Bool := okZ 1 R && decide (R.length ≤ 5864062014635)
def okV4 (R0 R1 R2 R3 : List (List D)) : Bool := okV R0 && (okV R1 && (okV R2 && okV R3))
theorem ZmO {R0 R1 R2 R3 : List (List D)} (h : okV4 R0 R1 R2 R3 = true) : (okZ 1 R0 = true ∧ R0.length ≤ 5864062014635) ∧ (okZ 1 R1 = true ∧ R1.length ≤ 5864062014635) ∧ (okZ 1 R2 = true ∧ R2.length ≤ 5864062014635) ∧ (okZ 1 R3 = true ∧ R3.length ≤ 5864062014635) := by
  simpa [okV4, okV, Bool.and_eq_true] using h
def sNew : Spec := fun ds Q => match ds with | [.agg [.s 0 1 R0 p0, .s 0 1 R1 p1, .s 0 1 R2 p2, .s 0 1 R3 p3]] => cond (okV4 R0 R1 R2 R3) (cond (amay (toZ (mW R0)) (toZ (mW R1)) (toZ (mW R2)) (toZ (mW R3))) (Q (.tup [dO (mW R0) (mW R1) (mW R2) (mW R3), I 0])) (Q (.tup [dNil, I 400]))) False | _ => False
theorem Zum : Zad Tryz.prog 50 sNew := o_of Tryz.func50 (by kernel_rfl) rfl fun ds Q h => by
  unfold sNew at h; split at h
  · rename_i R0 p0 R1 p1 R2 p2 R3 p3
    obtain ⟨h1, h2⟩ := Zae h
    obtain ⟨⟨a0, l0⟩, ⟨a1, l1⟩, ⟨a2, l2⟩, ⟨a3, l3⟩⟩ := ZmO h1
    have z0 := ZkR a0
    have z1 := ZkR a1
    have z2 := ZkR a2
    have z3 := ZkR a3
    have hz : okA (mW R0) (mW R1) (mW R2) (mW R3) = true := by simp [okA, z0, z1, z2, z3]
    have hL : Zas Tryz.prog (hkl [(91, sB val8)] [(6, Zf3 R0 p0 R1 p1 R2 p2 R3 p3)]) (Zao Tryz.f50) := ZpL rfl (by kernel_rfl) (by kernel_rfl) (ZlH a0 a1 a2 a3 l0 l1 l2 l3)
    have tk : ∀ R : List (List D), List.take R.length (mW R) = mW R := fun R => List.take_of_length_le (by rw [ZpY]; omega)
    cases hm : amay (toZ (mW R0)) (toZ (mW R1)) (toZ (mW R2)) (toZ (mW R3)) with
    | false =>
      rw [hm] at h2
      refine ⟨_, ZaK (l := [(91, sB val8)]) (m := [(6, Zf3 R0 p0 R1 p1 R2 p2 R3 p3)]) (.cons Zfn .nil) mixed hL Tryz.func50 rfl rfl rfl ?_, rfl, rfl, h2⟩
      rw [ZsX]
      cases q0 : Zax (toZ (mW R0)) with
      | false => exact ⟨rfl, fun _ _ _ _ => rfl, fun e => (nomatch e)⟩
      | true =>
        refine ⟨rfl, fun e => (nomatch e), fun _ => ?_⟩
        cases q1 : Zax (toZ (mW R1)) with
        | false => exact ⟨rfl, fun _ _ _ _ => rfl, fun e => (nomatch e)⟩
        | true =>
          refine ⟨rfl, fun e => (nomatch e), fun _ => ?_⟩
          cases q2 : Zax (toZ (mW R2)) with
          | false => exact ⟨rfl, fun _ _ _ _ => rfl, fun e => (nomatch e)⟩
          | true =>
            refine ⟨rfl, fun e => (nomatch e), fun _ => ?_⟩
            cases q3 : Zax (toZ (mW R3)) with
            | false => exact ⟨rfl, fun _ _ _ _ => rfl, fun e => (nomatch e)⟩
            | true => rw [amay, q0, q1, q2, q3] at hm; cases hm
    | true =>
      rw [hm] at h2
      refine ⟨_, ZaK (l := [(91, sB val8)]) (m := [(6, Zf3 R0 p0 R1 p1 R2 p2 R3 p3)]) (.cons Zfn .nil) mixed hL Tryz.func50 rfl rfl rfl ?_, ZoC z0 z1 z2 z3 _, rfl, h2⟩
      rw [ZsX]
      simp only [amay, Bool.and_eq_true] at hm
      obtain ⟨q0, q1, q2, q3⟩ := hm
      simp only [q0, q1, q2, q3, Bool.true_eq_false, false_implies, true_implies, true_and, ZpY, Nat.le_refl, decide_true, cond_true, ZaD (Zbk z0), ZaD (Zbk z1), ZaD (Zbk z2), ZaD (Zbk z3), Bool.and_self, tk, Nat.sub_self, List.take_zero]
  · exact h.elim
end

section
open Go Go.Proofs
theorem Zoy {α : Type} (l : List α) (p : α → Bool) : decide ((match l.findIdx? p with | some i => (i : Int) | none => -1) ≥ 0) = l.any p := by
  cases h : l.findIdx? p with
  | some i =>
    have : l.any p = true := by
      rw [List.findIdx?_eq_some_iff_getElem] at h
      obtain ⟨h1, h2, _⟩ := h
      exact List.any_eq_true.2 ⟨_, List.getElem_mem h1, h2⟩
    rw [this]; simp
  | none =>
    have : l.any p = false := by
      rw [List.findIdx?_eq_none_iff] at h
      rw [List.any_eq_false]; intro x hx; simpa using h x hx
    rw [this]; rfl
def ix4 (x : Int) : Bool := upto x 0 3
theorem eIdx (x : Int) (K : DV → Prop) : (ask Tryz.prog [] Tryz.f153 [I x] K) = (bif decide (x ≥ 0) then K (DV.c (D.v (Value.bool (decide (x < 4))))) else K (DV.c (D.v (Value.bool false)))) := by kernel_rfl
theorem oIdx : Zad Tryz.prog 153 (sB ix4) := oB Tryz.func153 (by kernel_rfl) rfl fun x => Zaj .nil mixed Tryz.func153 rfl rfl rfl (by
  rw [eIdx]; unfold ix4 upto; rw [lt4]; cases decide (x ≥ 0) <;> rfl)
def askE (k : Nat) (fn : Func) (args : List DV) (K : DV → Prop) : Prop := evp Tryz.prog (hkl [] []) 200 (Zao fn) (finF Tryz.prog fn k K) (Zbm fn.ntmps args)
theorem eOf (a b c : Int) (K : DV → Prop) : (askE 2 Tryz.f155 [.agg [vi a, vi b, vi c]] K) = (K (DV.c (D.f (186) [] [D.p (0) [D.v (Value.int IntKind.i64 a), D.v (Value.int IntKind.i64 b), D.v (Value.int IntKind.i64 c)] (0)]))) := by kernel_rfl
def sOf : Spec := fun ds Q => match ds with | [.agg [.v (.int .i64 a), .v (.int .i64 b), .v (.int .i64 c)]] => Q (.c (.f 186 [] [.p 0 [vI a, vI b, vI c] 0])) | _ => False
theorem oOf : Zad Tryz.prog 155 sOf := ZuL Tryz.func155 (by kernel_rfl) rfl fun ds Q h => by
  unfold sOf at h; split at h
  · rename_i a b c
    refine ⟨_, Zmg (H := hkl [] []) 2 (ZaI .nil) mixed 200 Tryz.func155 rfl (Zah rfl) (Nat.le_of_ble_eq_true rfl) rfl ?_, rfl, rfl, h⟩
    have e := eOf a b c (fun r => r = .c (.f 186 [] [.p 0 [vI a, vI b, vI c] 0]))
    exact e.mpr rfl
  · exact h.elim
theorem eOf1 (a b c x y z : Int) (K : DV → Prop) : (ask Tryz.prog [] Tryz.f186 [.agg [vi x, vi y, vi z], .c (.p 0 [vI a, vI b, vI c] 0)] K) = (bif x == a then K (DV.c (D.v (Value.bool (y == b)))) else K (DV.c (D.v (Value.bool false)))) := by kernel_rfl
def Zb7 (a b c : Int) (r : List Int) : Bool := bif r.getD 0 0 == a then r.getD 1 0 == b else false
def sOf1 : Spec := fun ds Q => match ds with | [.agg [.v (.int .i64 x), .v (.int .i64 y), .v (.int .i64 z)], .c (.p 0 [.v (.int .i64 a), .v (.int .i64 b), .v (.int .i64 c)] 0)] => Q (B (Zb7 a b c [x, y, z])) | _ => False
theorem oOf1 : Zad Tryz.prog 186 sOf1 := o_of Tryz.func186 (by kernel_rfl) rfl fun ds Q h => by
  unfold sOf1 at h; split at h
  · rename_i x y z a b c
    refine ⟨_, Zaj .nil mixed Tryz.func186 rfl rfl rfl ?_, rfl, rfl, h⟩
    rw [eOf1]; unfold Zb7; simp only [List.getD_cons_zero, List.getD_cons_succ]; cases x == a <;> rfl
  · exact h.elim
def sIXR (a : Int) (b : Int) (c : Int) (R : List (List D)) (sp : List (List D)) (v : Int) (i : Int) : X := ⟨mkT 19 [(0, aS 3 R sp), (1, .c (.d (.f 186 [] [.p 0 [vI a, vI b, vI c] 0]))), (4, ai v), (7, ai R.length), (8, ai i)], [], [], []⟩
def Zg9 (a : Int) (b : Int) (c : Int) (R : List (List D)) (sp : List (List D)) : Vw := fun y K => wI y 4 fun v => wI y 8 fun i => K (sIXR a b c R sp v i)
theorem ZiN (a : Int) (b : Int) (c : Int) (R : List (List D)) (sp : List (List D)) : VwOK (Zg9 a b c R sp) := fun y K h => by
  unfold Zg9 at h
  obtain ⟨v, h⟩ := Zby h
  obtain ⟨i, h⟩ := Zby h
  exact ⟨_, h⟩
theorem rIXR (a : Int) (b : Int) (c : Int) (R sp : List (List D)) (i v : Int) (N : X → Prop) (E : Exit → X → Prop) : (ZbJ Tryz.prog (hkA band bor [(186, sOf1)] []) Tryz.f185 0 [] [0, 1, 4, 7, 8] [] (Zg9 a b c R sp) (Zg9 a b c R sp) N E (sIXR a b c R sp v i)) = (bif decide (i < @Nat.cast Int _ (List.length R)) then bif decide (0 ≤ i) && decide (i < @Nat.cast Int _ (List.length R)) then bif isJ [IntKind.i64, IntKind.i64, IntKind.i64] (List.drop (0) (List.getD R (Int.toNat i) [])) then bif Zb7 a b c [hdJ (List.drop (0) (List.getD R (Int.toNat i) [])), hdJ (List.tail (List.drop (0) (List.getD R (Int.toNat i) []))), hdJ (List.tail (List.tail (List.drop (0) (List.getD R (Int.toNat i) []))))] then sIXR a b c R sp i i = sIXR a b c R sp i i ∧ E Exit.ret (sIXR a b c R sp i i) else sIXR a b c R sp v (IntKind.wrap IntKind.i64 (i + 1)) = sIXR a b c R sp v (IntKind.wrap IntKind.i64 (i + 1)) ∧ N (sIXR a b c R sp v (IntKind.wrap IntKind.i64 (i + 1))) else False else False else sIXR a b c R sp v i = sIXR a b c R sp v i ∧ E (Exit.exit (0)) (sIXR a b c R sp v i)) := by kernel_rfl
def fIXR (a : Int) (b : Int) (c : Int) (l : List (List Int)) (sp : List (List D)) : LSum := ZcU [0, 1, 4, 7, 8] [] (fun i => sIXR a b c (mZ l) sp 0 i) (fun i => sIXR a b c (mZ l) sp i i) l.length (fun i => Zb7 a b c (l.getD i [])) .ret (.exit 0)
theorem eIXR (a : Int) (b : Int) (c : Int) (l : List (List Int)) (sp : List (List D)) (K : DV → Prop) : (askL Tryz.prog [] [(2, fIXR a b c l sp)] Tryz.f185 [dS 3 (mZ l) sp, .c (.f 186 [] [.p 0 [vI a, vI b, vI c] 0])] K) = (sIXR a b c (mZ l) sp (0) (0) = sIXR a b c (mZ l) sp (0) (0) ∧ (∀ (i : Nat), firstAt (fun i => Zb7 a b c (List.getD l i [])) (List.length l) i → K (DV.c (D.v (Value.int IntKind.i64 (@Nat.cast Int _ i))))) ∧ (noneTo (fun i => Zb7 a b c (List.getD l i [])) (List.length l) → K (DV.c (D.v (Value.int IntKind.i64 (-1)))))) := by kernel_rfl
theorem kIXR (a : Int) (b : Int) (c : Int) {l : List (List Int)} {sp : List (List D)} (hw : wid 3 l) (hn : l.length ≤ 9223372036854775807) (Q : Exit → X → Prop) (x : X) (h : fIXR a b c l sp Q x) : XWP Tryz.prog (.loop (Zan Tryz.f185 0)) Q x := by
  refine ZbT (H := hkA band bor [(186, sOf1)] []) (sw := []) (V := Zg9 a b c (mZ l) sp) (VE := Zg9 a b c (mZ l) sp) (ZaI (.cons oOf1 .nil)) mixed (Zah rfl) (ZiN a b c (mZ l) sp) (ZiN a b c (mZ l) sp) _ _ _ _ _ _ (fun i hl N E h1 h2 => ?_) (fun N E h1 => ?_) Q x h
  · rw [rIXR]
    have wi : IntKind.wrap .i64 ((i : Int) + 1) = ((i + 1 : Nat) : Int) := Zat (n := 1) (by omega)
    have hj1 : isJ [IntKind.i64, IntKind.i64, IntKind.i64] ((mZ l).getD i []) = true := Zav (j := 0) (n := 3) hw hl (by omega)
    simp only [Zaf, Int.ofNat_lt, hl, decide_true, cond_true, Int.natCast_nonneg, Bool.and_self, Int.toNat_natCast, ZaG, ZaF, Zbu, hj1, List.drop_zero, ZaB, true_and, wi]
    have e : Zb7 a b c (l.getD i []) = Zb7 a b c [(l.getD i []).getD 0 0, (l.getD i []).getD 1 0, (l.getD i []).getD 2 0] := rfl
    cases ho : Zb7 a b c (l.getD i []) with
    | false => rw [e] at ho; rw [ho]; exact h2 (by rw [e]; exact ho)
    | true => rw [e] at ho; rw [ho]; exact h1 (by rw [e]; exact ho)
  · rw [rIXR]
    simp only [Zaf, Int.ofNat_lt, Nat.lt_irrefl, decide_false, cond_false, true_and]
    exact h1
def sIxR : Spec := fun ds Q => match ds with | [.c (.s 0 3 R sp), .c (.f 186 [] [.p 0 [.v (.int .i64 a), .v (.int .i64 b), .v (.int .i64 c)] 0])] => cond (okZ 3 R) (Q (I (match (toZ R).findIdx? (Zb7 a b c) with | some i => (i : Int) | none => -1))) False | _ => False
theorem oIxR : Zad Tryz.prog 185 sIxR := o_of Tryz.func185 (by kernel_rfl) rfl fun ds Q h => by
  unfold sIxR at h; split at h
  · rename_i R sp a b c
    obtain ⟨h1, h2⟩ := Zae h
    obtain ⟨e1, w1, n1⟩ := Zag h1
    rw [e1]
    rw [← Zau R] at n1
    generalize toZ R = l at *
    refine ⟨_, ZaK (l := []) (m := [(2, fIXR a b c l sp)]) .nil mixed (ZbK rfl (by kernel_rfl) (kIXR a b c w1 n1)) Tryz.func185 rfl rfl rfl ?_, rfl, rfl, h2⟩
    rw [eIXR]
    refine ⟨rfl, fun i hi => ?_, fun hn => ?_⟩
    · rw [hi.find]
    · rw [hn.find]
  · exact h.elim
theorem eCOR (a : Int) (b : Int) (c : Int) (R sp : List (List D)) (K : DV → Prop) : (ask Tryz.prog [(185, sIxR)] Tryz.f154 [dS 3 R sp, .c (.f 186 [] [.p 0 [vI a, vI b, vI c] 0])] K) = (bif okZ (3) R then K (DV.c (D.v (Value.bool (decide ((match List.findIdx? (Zb7 a b c) (toZ R) with | some i => @Nat.cast Int _ i | none => -1) ≥ 0))))) else False) := by kernel_rfl
def sCoR : Spec := fun ds Q => match ds with | [.c (.s 0 3 R sp), .c (.f 186 [] [.p 0 [.v (.int .i64 a), .v (.int .i64 b), .v (.int .i64 c)] 0])] => cond (okZ 3 R) (Q (B ((toZ R).any (Zb7 a b c)))) False | _ => False
theorem oCoR : Zad Tryz.prog 154 sCoR := o_of Tryz.func154 (by kernel_rfl) rfl fun ds Q h => by
  unfold sCoR at h; split at h
  · obtain ⟨h1, h2⟩ := Zae h
    refine ⟨_, Zaj (.cons oIxR .nil) mixed Tryz.func154 rfl rfl rfl ?_, rfl, rfl, h2⟩
    rw [eCOR, h1, Zoy]; rfl
  · exact h.elim
def ok1 (a b c : Int) : Bool := bif lab a then bif ix4 b then clk c else false else false
theorem eWN (x y : Int) (K : DV → Prop) : (ask Tryz.prog [(71, sB lab), (119, sUp)] Tryz.f166 [I x, I y] K) = (bif lab x then K (DV.c (D.v (Value.bool (decide (y ≥ 0) && decide (y ≤ 3))))) else K (DV.c (D.v (Value.bool false)))) := by kernel_rfl
def wnm (x y : Int) : Bool := bif lab x then ix4 y else false
def sWN : Spec := fun ds Q => match ds with | [.c (.v (.int .i64 x)), .c (.v (.int .i64 y))] => Q (B (wnm x y)) | _ => False
theorem oWN : Zad Tryz.prog 166 sWN := o_of Tryz.func166 (by kernel_rfl) rfl fun ds Q h => by
  unfold sWN at h; split at h
  · rename_i x y
    refine ⟨_, Zaj (.cons Zl2 (.cons oUp .nil)) mixed Tryz.func166 rfl rfl rfl ?_, rfl, rfl, h⟩
    rw [eWN]; unfold wnm ix4 upto; cases lab x <;> rfl
  · exact h.elim
end

section
open Go Go.Proofs
def badR (l : List (List Int)) (i : Nat) : Bool := !ok1 ((l.getD i []).getD 0 0) ((l.getD i []).getD 1 0) ((l.getD i []).getD 2 0) || (l.take i).any (Zb7 ((l.getD i []).getD 0 0) ((l.getD i []).getD 1 0) ((l.getD i []).getD 2 0))
def rmay (l : List (List Int)) : Bool := decide (l.length ≤ 16) && !(List.range l.length).any (badR l)
theorem Zpc (R sp : List (List D)) {i : Nat} (hi : i ≤ R.length) : cut (R ++ sp) 0 i = R.take i := by
  simp [cut, List.take_append_of_le_length hi]
theorem Zqt {l : List (List Int)} {p : List Int → Bool} {i k : Nat} (hi : i ≤ l.length) (h : firstAt (fun j => p (l.getD j [])) i k) : (l.take i).any p = true := by
  refine firstAt.any (d := []) (i := k) ⟨by rw [List.length_take]; have := h.1; omega, ?_, fun j hj => ?_⟩
  · show p ((l.take i).getD k []) = true
    have := h.1
    rw [show (l.take i).getD k [] = l.getD k [] by simp [List.getD_eq_getElem?_getD, List.getElem?_take, this]]; exact h.2.1
  · show p ((l.take i).getD j []) = false
    have := h.1
    rw [show (l.take i).getD j [] = l.getD j [] by simp [List.getD_eq_getElem?_getD, List.getElem?_take, Nat.lt_trans hj this]]; exact h.2.2 j hj
theorem Zo3 {l : List (List Int)} {p : List Int → Bool} {i : Nat} (hi : i ≤ l.length) (h : noneTo (fun j => p (l.getD j [])) i) : (l.take i).any p = false := by
  refine noneTo.any (d := []) fun j hj => ?_
  have hj : j < i := by rw [List.length_take] at hj; omega
  show p ((l.take i).getD j []) = false
  rw [show (l.take i).getD j [] = l.getD j [] by simp [List.getD_eq_getElem?_getD, List.getElem?_take, hj]]; exact h j hj
theorem Zq3 {P : Program} {l : List (FuncId × Spec)} {fn : Func} {k : Nat} {s : LSum} (hn : (Za1 (Zao fn)).length = 2) (hk : Zbw (Zan fn 0) = k) (hk1 : (hkl l [(k, s)]).loop (Zbw (Zan fn 1)) = none) (h : ∀ Q x, s Q x → XWP P (.loop (Zan fn 0)) Q x) : Zas P (hkl l [(k, s)]) (Zao fn) :=
  Zdi 2 hn fun i hi s' hs Q x hq => by
    match i, hi with
    | 1, _ => rw [hk1] at hs; cases hs
    | 0, _ =>
      rw [hk] at hs
      have hs' : some s = some s' := by simpa [ZcX, hkl, hkA, Za7] using hs
      cases hs'
      exact h Q x hq
def stRM (R : List (List D)) (sp : List (List D)) (v : Bool) (i : Int) : X := ⟨mkT 40 [(0, aS 3 R sp), (2, ab v), (8, aS 3 R sp), (9, ai R.length), (10, ai i)], [], [], []⟩
def ZgN (R : List (List D)) (sp : List (List D)) : Vw := fun y K => wB y 2 fun v => wI y 10 fun i => K (stRM R sp v i)
theorem Zim (R : List (List D)) (sp : List (List D)) : VwOK (ZgN R sp) := fun y K h => by
  unfold ZgN at h
  obtain ⟨v, h⟩ := Zdj h
  obtain ⟨i, h⟩ := Zby h
  exact ⟨_, h⟩
theorem rRM (R sp : List (List D)) (v : Bool) (i : Int) (N : X → Prop) (E : Exit → X → Prop) : (ZbJ Tryz.prog (hkA band bor [(64, sB lab), (153, sB ix4), (102, sB clk), (155, sOf), (154, sCoR)] []) Tryz.f105 0 [] [0, 2, 8, 9, 10] [] (ZgN R sp) (ZgN R sp) N E (stRM R sp v i)) = (bif decide (i < @Nat.cast Int _ (List.length R)) then bif decide (0 ≤ i) && decide (i < @Nat.cast Int _ (List.length R)) then bif isJ [IntKind.i64, IntKind.i64, IntKind.i64] (List.drop (0) (List.getD R (Int.toNat i) [])) then bif !lab (hdJ (List.drop (0) (List.getD R (Int.toNat i) []))) then stRM R sp false i = stRM R sp false i ∧ E Exit.ret (stRM R sp false i) else bif !ix4 (hdJ (List.tail (List.drop (0) (List.getD R (Int.toNat i) [])))) then stRM R sp false i = stRM R sp false i ∧ E Exit.ret (stRM R sp false i) else bif !clk (hdJ (List.tail (List.tail (List.drop (0) (List.getD R (Int.toNat i) []))))) then stRM R sp false i = stRM R sp false i ∧ E Exit.ret (stRM R sp false i) else bif true && (decide (0 ≤ i) && decide (i ≤ @Nat.cast Int _ (List.length R + List.length sp))) then bif okZ (3) (cut (R ++ sp) (0) (Int.toNat i - 0)) then bif List.any (toZ (cut (R ++ sp) (0) (Int.toNat i - 0))) (Zb7 (hdJ (List.drop (0) (List.getD R (Int.toNat i) []))) (hdJ (List.tail (List.drop (0) (List.getD R (Int.toNat i) [])))) (hdJ (List.tail (List.tail (List.drop (0) (List.getD R (Int.toNat i) [])))))) then stRM R sp false i = stRM R sp false i ∧ E Exit.ret (stRM R sp false i) else stRM R sp v (IntKind.wrap IntKind.i64 (i + 1)) = stRM R sp v (IntKind.wrap IntKind.i64 (i + 1)) ∧ N (stRM R sp v (IntKind.wrap IntKind.i64 (i + 1))) else False else False else False else False else stRM R sp v i = stRM R sp v i ∧ E (Exit.exit (0)) (stRM R sp v i)) := by kernel_rfl
def fRM (l : List (List Int)) (sp : List (List D)) : LSum := ZcU [0, 2, 8, 9, 10] [] (fun i => stRM (mZ l) sp false i) (fun i => stRM (mZ l) sp false i) l.length (badR l) .ret (.exit 0)
theorem kRM {l : List (List Int)} {sp : List (List D)} (hw : wid 3 l) (hn : l.length ≤ 9223372036854775807) (Q : Exit → X → Prop) (x : X) (h : fRM l sp Q x) : XWP Tryz.prog (.loop (Zan Tryz.f105 0)) Q x := by
  refine ZbT (H := hkA band bor [(64, sB lab), (153, sB ix4), (102, sB clk), (155, sOf), (154, sCoR)] []) (sw := []) (V := ZgN (mZ l) sp) (VE := ZgN (mZ l) sp) (ZaI (.cons oLab (.cons oIdx (.cons oClk (.cons oOf (.cons oCoR .nil)))))) mixed (Zah rfl) (Zim (mZ l) sp) (Zim (mZ l) sp) _ _ _ _ _ _ (fun i hl N E h1 h2 => ?_) (fun N E h1 => ?_) Q x h
  · rw [rRM]
    have wi : IntKind.wrap .i64 ((i : Int) + 1) = ((i + 1 : Nat) : Int) := Zat (n := 1) (by omega)
    have hj1 : isJ [IntKind.i64, IntKind.i64, IntKind.i64] ((mZ l).getD i []) = true := Zav (j := 0) (n := 3) hw hl (by omega)
    have hc : cut (mZ l ++ sp) 0 i = mZ (l.take i) := by rw [Zpc _ _ (by rw [Zaf]; omega), Zq4]
    have ho : okZ 3 (mZ (l.take i)) = true := Zdo (Zo7 hw i) (by simp; omega)
    have hb : decide ((i : Int) ≤ ((l.length + sp.length : Nat) : Int)) = true := by simp; omega
    simp only [Zaf, Int.ofNat_lt, hl, decide_true, cond_true, Int.natCast_nonneg, Bool.and_self, Int.toNat_natCast, ZaG, ZaF, hj1, List.drop_zero, ZaB, true_and, wi, Nat.sub_zero, hc, ho, hb, ZbY]
    unfold badR ok1 at h1 h2
    revert h1 h2
    generalize lab ((l.getD i []).getD 0 0) = p1
    generalize ix4 ((l.getD i []).getD 1 0) = p2
    generalize clk ((l.getD i []).getD 2 0) = p3
    generalize (l.take i).any (Zb7 ((l.getD i []).getD 0 0) ((l.getD i []).getD 1 0) ((l.getD i []).getD 2 0)) = p4
    cases p1 <;> cases p2 <;> cases p3 <;> cases p4 <;> intro h1 h2 <;> first | exact h1 rfl | exact h2 rfl
  · rw [rRM]
    simp only [Zaf, Int.ofNat_lt, Nat.lt_irrefl, decide_false, cond_false, true_and]
    exact h1
theorem eRM (l : List (List Int)) (sp : List (List D)) (K : DV → Prop) : (askL Tryz.prog [] [(4, fRM l sp)] Tryz.f105 [dS 3 (mZ l) sp] K) = (bif decide (@Nat.cast Int _ (List.length (mZ l)) > 16) then K (DV.c (D.v (Value.bool false))) else stRM (mZ l) sp false (0) = stRM (mZ l) sp false (0) ∧ (∀ (i : Nat), firstAt (badR l) (List.length l) i → K (DV.c (D.v (Value.bool false)))) ∧ (noneTo (badR l) (List.length l) → K (DV.c (D.v (Value.bool true))))) := by kernel_rfl
def sRM : Spec := fun ds Q => match ds with | [.c (.s 0 3 R sp)] => cond (okZ 3 R) (Q (B (rmay (toZ R)))) False | _ => False
theorem oRM : Zad Tryz.prog 105 sRM := o_of Tryz.func105 (by kernel_rfl) rfl fun ds Q h => by
  unfold sRM at h; split at h
  · rename_i R sp
    obtain ⟨h1, h2⟩ := Zae h
    obtain ⟨e1, w1, n1⟩ := Zag h1
    rw [e1]
    rw [← Zau R] at n1
    generalize toZ R = l at *
    refine ⟨_, ZaK (l := []) (m := [(4, fRM l sp)]) .nil mixed (ZbK rfl (by kernel_rfl) (kRM w1 n1)) Tryz.func105 rfl rfl rfl ?_, rfl, rfl, h2⟩
    rw [eRM]
    have hg : decide (((mZ l).length : Int) > 16) = !decide (l.length ≤ 16) := by rw [Zaf]; by_cases h : l.length ≤ 16 <;> simp [h] <;> omega
    rw [hg]
    cases hd : decide (l.length ≤ 16) with
    | false => simp [rmay, hd]
    | true =>
      simp only [Bool.not_true, cond_false]
      refine ⟨by trivial, fun i hi => ?_, fun hn => ?_⟩
      · rw [rmay, hi.b]; simp
      · rw [rmay, hn.b, hd]; rfl
  · exact h.elim
def stQM (R : List (List D)) (sp : List (List D)) (v : Bool) (i : Int) : X := ⟨mkT 64 [(0, aS 3 R sp), (2, ab v), (3, ai i)], [], [], []⟩
def Zg8 (R : List (List D)) (sp : List (List D)) : Vw := fun y K => wB y 2 fun v => wI y 3 fun i => K (stQM R sp v i)
theorem Zi7 (R : List (List D)) (sp : List (List D)) : VwOK (Zg8 R sp) := fun y K h => by
  unfold Zg8 at h
  obtain ⟨v, h⟩ := Zdj h
  obtain ⟨i, h⟩ := Zby h
  exact ⟨_, h⟩
def stQN (R : List (List D)) (sp : List (List D)) (i : Int) (v : Bool) (j : Int) : X := ⟨mkT 64 [(0, aS 3 R sp), (2, ab v), (3, ai i), (4, ai j)], [], [], []⟩
def ZgL (R : List (List D)) (sp : List (List D)) (i : Int) : Vw := fun y K => wB y 2 fun v => wI y 4 fun j => K (stQN R sp i v j)
theorem ZiJ (R : List (List D)) (sp : List (List D)) (i : Int) : VwOK (ZgL R sp i) := fun y K h => by
  unfold ZgL at h
  obtain ⟨v, h⟩ := Zdj h
  obtain ⟨j, h⟩ := Zby h
  exact ⟨_, h⟩
theorem rQN (R sp : List (List D)) (i : Int) (v : Bool) (j : Int) (N : X → Prop) (E : Exit → X → Prop) : (ZbJ Tryz.prog (hkA band bor [] []) Tryz.f122 1 [] [0, 2, 3, 4] [] (ZgL R sp i) (ZgL R sp i) N E (stQN R sp i v j)) = (bif decide (j < i) then bif decide (0 ≤ j) && decide (j < @Nat.cast Int _ (List.length R)) then bif isJ [IntKind.i64] (List.drop (0) (List.getD R (Int.toNat j) [])) then bif decide (0 ≤ i) && decide (i < @Nat.cast Int _ (List.length R)) then bif isJ [IntKind.i64] (List.drop (0) (List.getD R (Int.toNat i) [])) then bif hdJ (List.drop (0) (List.getD R (Int.toNat j) [])) == hdJ (List.drop (0) (List.getD R (Int.toNat i) [])) then bif decide (0 ≤ j) && decide (j < @Nat.cast Int _ (List.length R)) then bif isJ [IntKind.i64] (List.drop (1) (List.getD R (Int.toNat j) [])) then bif decide (0 ≤ i) && decide (i < @Nat.cast Int _ (List.length R)) then bif isJ [IntKind.i64] (List.drop (1) (List.getD R (Int.toNat i) [])) then bif hdJ (List.drop (1) (List.getD R (Int.toNat j) [])) == hdJ (List.drop (1) (List.getD R (Int.toNat i) [])) then stQN R sp i false j = stQN R sp i false j ∧ E Exit.ret (stQN R sp i false j) else stQN R sp i v (IntKind.wrap IntKind.i64 (j + 1)) = stQN R sp i v (IntKind.wrap IntKind.i64 (j + 1)) ∧ N (stQN R sp i v (IntKind.wrap IntKind.i64 (j + 1))) else False else False else False else False else stQN R sp i v (IntKind.wrap IntKind.i64 (j + 1)) = stQN R sp i v (IntKind.wrap IntKind.i64 (j + 1)) ∧ N (stQN R sp i v (IntKind.wrap IntKind.i64 (j + 1))) else False else False else False else False else stQN R sp i v j = stQN R sp i v j ∧ E (Exit.exit (2)) (stQN R sp i v j)) := by kernel_rfl
def fQN (l : List (List Int)) (sp : List (List D)) (i : Nat) : LSum := fun Q x => cond (decide (i < l.length)) (ZcU [0, 2, 3, 4] [] (fun j => stQN (mZ l) sp i false j) (fun j => stQN (mZ l) sp i false j) i (fun j => Zb7 ((l.getD i []).getD 0 0) ((l.getD i []).getD 1 0) ((l.getD i []).getD 2 0) (l.getD j [])) .ret (.exit 2) Q x) False
theorem kQN {l : List (List Int)} {sp : List (List D)} (hw : wid 3 l) (hn : l.length ≤ 9223372036854775807) {i : Nat} (Q : Exit → X → Prop) (x : X) (h : fQN l sp i Q x) : XWP Tryz.prog (.loop (Zan Tryz.f122 1)) Q x := by
  obtain ⟨hi, h⟩ := Zae h
  have hi := of_decide_eq_true hi
  refine ZbT (H := hkA band bor [] []) (sw := []) (V := ZgL (mZ l) sp i) (VE := ZgL (mZ l) sp i) (ZaI .nil) mixed (Zah rfl) (ZiJ (mZ l) sp i) (ZiJ (mZ l) sp i) _ _ _ _ _ _ (fun j hl N E h1 h2 => ?_) (fun N E h1 => ?_) Q x h
  · rw [rQN]
    have wi : IntKind.wrap .i64 ((j : Int) + 1) = ((j + 1 : Nat) : Int) := Zat (n := 1) (by omega)
    have hjl : j < l.length := by omega
    have a1 : isJ [IntKind.i64] ((mZ l).getD i []) = true := Zav (j := 0) (n := 1) hw hi (by omega)
    have a2 : isJ [IntKind.i64] (List.drop 1 ((mZ l).getD i [])) = true := Zav (j := 1) (n := 1) hw hi (by omega)
    have b1 : isJ [IntKind.i64] ((mZ l).getD j []) = true := Zav (j := 0) (n := 1) hw hjl (by omega)
    have b2 : isJ [IntKind.i64] (List.drop 1 ((mZ l).getD j [])) = true := Zav (j := 1) (n := 1) hw hjl (by omega)
    simp only [Zaf, Int.ofNat_lt, hl, hi, hjl, decide_true, cond_true, Int.natCast_nonneg, Bool.and_self, Int.toNat_natCast, a1, a2, b1, b2, List.drop_zero, ZaB, Zci, true_and, wi]
    unfold Zb7 at h1 h2
    revert h1 h2
    generalize ((l.getD j []).getD 0 0 == (l.getD i []).getD 0 0) = p1
    generalize ((l.getD j []).getD 1 0 == (l.getD i []).getD 1 0) = p2
    cases p1 <;> cases p2 <;> intro h1 h2 <;> first | exact h1 rfl | exact h2 rfl
  · rw [rQN]
    simp only [Zaf, Int.ofNat_lt, Nat.lt_irrefl, decide_false, cond_false, true_and]
    exact h1
theorem rQM (l : List (List Int)) (sp : List (List D)) (n : Nat) (N : X → Prop) (E : Exit → X → Prop) : (ZbJ Tryz.prog (hkA band bor [(166, sWN), (69, sB clk)] [(7, fQN l sp n)]) Tryz.f122 0 [] [0, 2, 3] [] (Zg8 (mZ l) sp) (Zg8 (mZ l) sp) N E (stQM (mZ l) sp false (n : Int))) = (bif decide (@Nat.cast Int _ n < @Nat.cast Int _ (List.length (mZ l))) then bif decide (0 ≤ @Nat.cast Int _ n) && decide (@Nat.cast Int _ n < @Nat.cast Int _ (List.length (mZ l))) then bif isJ [IntKind.i64] (List.drop (0) (List.getD (mZ l) (Int.toNat (@Nat.cast Int _ n)) [])) then bif decide (0 ≤ @Nat.cast Int _ n) && decide (@Nat.cast Int _ n < @Nat.cast Int _ (List.length (mZ l))) then bif isJ [IntKind.i64] (List.drop (1) (List.getD (mZ l) (Int.toNat (@Nat.cast Int _ n)) [])) then bif !wnm (hdJ (List.drop (0) (List.getD (mZ l) (Int.toNat (@Nat.cast Int _ n)) []))) (hdJ (List.drop (1) (List.getD (mZ l) (Int.toNat (@Nat.cast Int _ n)) []))) then stQM (mZ l) sp false (@Nat.cast Int _ n) = stQM (mZ l) sp false (@Nat.cast Int _ n) ∧ E Exit.ret (stQM (mZ l) sp false (@Nat.cast Int _ n)) else bif decide (0 ≤ @Nat.cast Int _ n) && decide (@Nat.cast Int _ n < @Nat.cast Int _ (List.length (mZ l))) then bif isJ [IntKind.i64] (List.drop (2) (List.getD (mZ l) (Int.toNat (@Nat.cast Int _ n)) [])) then bif !clk (hdJ (List.drop (2) (List.getD (mZ l) (Int.toNat (@Nat.cast Int _ n)) []))) then stQM (mZ l) sp false (@Nat.cast Int _ n) = stQM (mZ l) sp false (@Nat.cast Int _ n) ∧ E Exit.ret (stQM (mZ l) sp false (@Nat.cast Int _ n)) else bif decide (n < List.length l) then stQN (mZ l) sp (@Nat.cast Int _ n) false (0) = stQN (mZ l) sp (@Nat.cast Int _ n) false (0) ∧ (∀ (i : Nat), firstAt (fun j => Zb7 (List.getD (List.getD l n []) (0) (0)) (List.getD (List.getD l n []) (1) (0)) (List.getD (List.getD l n []) (2) (0)) (List.getD l j [])) n i → stQM (mZ l) sp false (@Nat.cast Int _ n) = stQM (mZ l) sp false (@Nat.cast Int _ n) ∧ E Exit.ret (stQM (mZ l) sp false (@Nat.cast Int _ n))) ∧ (noneTo (fun j => Zb7 (List.getD (List.getD l n []) (0) (0)) (List.getD (List.getD l n []) (1) (0)) (List.getD (List.getD l n []) (2) (0)) (List.getD l j [])) n → stQM (mZ l) sp false (IntKind.wrap IntKind.i64 (@Nat.cast Int _ n + 1)) = stQM (mZ l) sp false (IntKind.wrap IntKind.i64 (@Nat.cast Int _ n + 1)) ∧ N (stQM (mZ l) sp false (IntKind.wrap IntKind.i64 (@Nat.cast Int _ n + 1)))) else False else False else False else False else False else False else False else stQM (mZ l) sp false (@Nat.cast Int _ n) = stQM (mZ l) sp false (@Nat.cast Int _ n) ∧ E (Exit.exit (0)) (stQM (mZ l) sp false (@Nat.cast Int _ n))) := by kernel_rfl
def fQM (l : List (List Int)) (sp : List (List D)) : LSum := ZcU [0, 2, 3] [] (fun i => stQM (mZ l) sp false i) (fun i => stQM (mZ l) sp false i) l.length (badR l) .ret (.exit 0)
theorem Zp0 {l : List (List Int)} {sp : List (List D)} {n : Nat} (h : ∀ Q x, fQN l sp n Q x → XWP Tryz.prog (.loop (Zan Tryz.f122 1)) Q x) (L : List (FuncId × Spec)) : Zas Tryz.prog (hkA band bor L [(7, fQN l sp n)]) (Zan Tryz.f122 0) := fun b hb s hs Q x hq => by
  have e : Za1 (Zan Tryz.f122 0) = [Zan Tryz.f122 1] := by kernel_rfl
  rw [e] at hb
  have hb := List.mem_singleton.1 hb
  subst hb
  have e2 : Zbw (Zan Tryz.f122 1) = 7 := by kernel_rfl
  rw [e2] at hs
  have hs' : some (fQN l sp n) = some s := by simpa [ZcX, hkl, hkA, Za7] using hs
  cases hs'
  exact h Q x hq
theorem kQM {l : List (List Int)} {sp : List (List D)} (hw : wid 3 l) (hn : l.length ≤ 9223372036854775807) (Q : Exit → X → Prop) (x : X) (h : fQM l sp Q x) : XWP Tryz.prog (.loop (Zan Tryz.f122 0)) Q x := by
  refine Zh1 (sw := []) (V := Zg8 (mZ l) sp) (VE := Zg8 (mZ l) sp) mixed (Zi7 (mZ l) sp) (Zi7 (mZ l) sp) _ _ _ _ _ _ (fun i hl => ⟨_, ZaI (.cons oWN (.cons Zgm .nil)), Zp0 (sp := sp) (n := i) (kQN hw hn) _, fun N E h1 h2 => ?_⟩) ⟨_, ZaI (.cons oWN (.cons Zgm .nil)), Zp0 (sp := sp) (n := l.length) (kQN hw hn) _, fun N E h1 => ?_⟩ Q x h
  · rw [rQM]
    have wi : IntKind.wrap .i64 ((i : Int) + 1) = ((i + 1 : Nat) : Int) := Zat (n := 1) (by omega)
    have a1 : isJ [IntKind.i64] ((mZ l).getD i []) = true := Zav (j := 0) (n := 1) hw hl (by omega)
    have a2 : isJ [IntKind.i64] (List.drop 1 ((mZ l).getD i [])) = true := Zav (j := 1) (n := 1) hw hl (by omega)
    have a3 : isJ [IntKind.i64] (List.drop 2 ((mZ l).getD i [])) = true := Zav (j := 2) (n := 1) hw hl (by omega)
    simp only [Zaf, Int.ofNat_lt, hl, decide_true, cond_true, Int.natCast_nonneg, Bool.and_self, Int.toNat_natCast, a1, a2, a3, List.drop_zero, ZaB, Zci, true_and, wi]
    unfold badR ok1 at h1 h2
    unfold wnm
    have ha : ∀ i', firstAt (fun j => Zb7 ((l.getD i []).getD 0 0) ((l.getD i []).getD 1 0) ((l.getD i []).getD 2 0) (l.getD j [])) i i' → (l.take i).any (Zb7 ((l.getD i []).getD 0 0) ((l.getD i []).getD 1 0) ((l.getD i []).getD 2 0)) = true := fun i' hi' => Zqt (by omega) hi'
    have hb : noneTo (fun j => Zb7 ((l.getD i []).getD 0 0) ((l.getD i []).getD 1 0) ((l.getD i []).getD 2 0) (l.getD j [])) i → (l.take i).any (Zb7 ((l.getD i []).getD 0 0) ((l.getD i []).getD 1 0) ((l.getD i []).getD 2 0)) = false := fun hi' => Zo3 (by omega) hi'
    revert h1 h2
    cases lab ((l.getD i []).getD 0 0) <;> cases ix4 ((l.getD i []).getD 1 0) <;> cases clk ((l.getD i []).getD 2 0) <;> intro h1 h2
    all_goals first | exact h1 rfl | exact ⟨fun i' hi' => h1 (by rw [ha i' hi']; rfl), fun hi' => h2 (by rw [hb hi']; rfl)⟩
  · rw [rQM]
    simp only [Zaf, Int.ofNat_lt, Nat.lt_irrefl, decide_false, cond_false, true_and]
    exact h1
theorem eQM (l : List (List Int)) (sp : List (List D)) (K : DV → Prop) : (askL Tryz.prog [] [(2, fQM l sp)] Tryz.f122 [dS 3 (mZ l) sp] K) = (stQM (mZ l) sp false (0) = stQM (mZ l) sp false (0) ∧ (∀ (i : Nat), firstAt (badR l) (List.length l) i → K (DV.c (D.v (Value.bool false)))) ∧ (noneTo (badR l) (List.length l) → K (DV.c (D.v (Value.bool (decide (@Nat.cast Int _ (List.length (mZ l)) ≤ 16))))))) := by kernel_rfl
theorem oQM : Zad Tryz.prog 122 sRM := o_of Tryz.func122 (by kernel_rfl) rfl fun ds Q h => by
  unfold sRM at h; split at h
  · rename_i R sp
    obtain ⟨h1, h2⟩ := Zae h
    obtain ⟨e1, w1, n1⟩ := Zag h1
    rw [e1]
    rw [← Zau R] at n1
    generalize toZ R = l at *
    refine ⟨_, ZaK (l := []) (m := [(2, fQM l sp)]) .nil mixed (Zq3 rfl (by kernel_rfl) (by kernel_rfl) (kQM w1 n1)) Tryz.func122 rfl rfl rfl ?_, rfl, rfl, h2⟩
    rw [eQM]
    refine ⟨by trivial, fun i hi => ?_, fun hn => ?_⟩
    · rw [rmay, hi.b]; simp
    · rw [rmay, hn.b, Zaf]; by_cases hl : l.length ≤ 16 <;> simp [hl] <;> omega
  · exact h.elim
end

section
open Go Go.Proofs
def wdv (a b c d : List (List Int)) (r : List Int) : List Int := wrd (selA (r.getD 0 0) a b c d) (r.getD 1 0)
def thv (a b c d : List (List Int)) (r : List Int) : Bool := thr a.length b.length c.length d.length (r.getD 0 0) (r.getD 1 0)
def gets (a b c d l : List (List Int)) : Bool := amay a b c d && (rmay l && l.all (thv a b c d))
def gotW (a b c d l : List (List Int)) : List (List Int) := bif gets a b c d l then l.map (wdv a b c d) else []
def badC (a b c d : List (List Int)) (r : List Int) : Bool := (wdv a b c d r).getD 1 0 != r.getD 2 0
def sWo : Spec := fun ds Q => match ds with | [.c (.p 0 [.s 0 3 R0 p0, .s 0 3 R1 p1, .s 0 3 R2 p2, .s 0 3 R3 p3] 0), .c (.s 0 3 R sp)] => cond (okA R0 R1 R2 R3 && okZ 3 R) (Q (.tup [oS 3 (mZ (gotW (toZ R0) (toZ R1) (toZ R2) (toZ R3) (toZ R))) [], B (gets (toZ R0) (toZ R1) (toZ R2) (toZ R3) (toZ R))])) False | _ => False
def sRT : Spec := fun ds Q => match ds with | [.agg [.s 0 3 R0 p0, .s 0 3 R1 p1, .s 0 3 R2 p2, .s 0 3 R3 p3], .c (.s 0 3 R sp)] => cond (okA R0 R1 R2 R3 && okZ 3 R) (Q (B ((toZ R).all (thv (toZ R0) (toZ R1) (toZ R2) (toZ R3))))) False | _ => False
def stRT (R0 : List (List D)) (p0 : List (List D)) (R1 : List (List D)) (p1 : List (List D)) (R2 : List (List D)) (p2 : List (List D)) (R3 : List (List D)) (p3 : List (List D)) (R : List (List D)) (sp : List (List D)) (v : Bool) (i : Int) : X := ⟨mkT 25 [(1, aS 3 R sp), (2, .c (.rp 3 0 4 0 0)), (4, ab v), (5, ai i)], [(3, .bx 0 4 [.d (.s 0 3 R0 p0), .d (.s 0 3 R1 p1), .d (.s 0 3 R2 p2), .d (.s 0 3 R3 p3)])], [], []⟩
def Zgx (R0 : List (List D)) (p0 : List (List D)) (R1 : List (List D)) (p1 : List (List D)) (R2 : List (List D)) (p2 : List (List D)) (R3 : List (List D)) (p3 : List (List D)) (R : List (List D)) (sp : List (List D)) : Vw := fun y K => wB y 4 fun v => wI y 5 fun i => K (stRT R0 p0 R1 p1 R2 p2 R3 p3 R sp v i)
theorem ZiG (R0 : List (List D)) (p0 : List (List D)) (R1 : List (List D)) (p1 : List (List D)) (R2 : List (List D)) (p2 : List (List D)) (R3 : List (List D)) (p3 : List (List D)) (R : List (List D)) (sp : List (List D)) : VwOK (Zgx R0 p0 R1 p1 R2 p2 R3 p3 R sp) := fun y K h => by
  unfold Zgx at h
  obtain ⟨v, h⟩ := Zdj h
  obtain ⟨i, h⟩ := Zby h
  exact ⟨_, h⟩
theorem rRT (R0 : List (List D)) (p0 : List (List D)) (R1 : List (List D)) (p1 : List (List D)) (R2 : List (List D)) (p2 : List (List D)) (R3 : List (List D)) (p3 : List (List D)) (R : List (List D)) (sp : List (List D)) (v : Bool) (i : Int) (N : X → Prop) (E : Exit → X → Prop) : (Zcc Tryz.prog (hkA band bor [(164, Zeo)] []) Tryz.f165 0 [] [1, 2, 4, 5] [3] (Zgx R0 p0 R1 p1 R2 p2 R3 p3 R sp) (fun _ => Zgx R0 p0 R1 p1 R2 p2 R3 p3 R sp) N E (stRT R0 p0 R1 p1 R2 p2 R3 p3 R sp v i)) = (bif decide (i < @Nat.cast Int _ (List.length R)) then bif decide (0 ≤ i) && decide (i < @Nat.cast Int _ (List.length R)) then bif isJ [IntKind.i64] (List.drop (0) (List.getD R (Int.toNat i) [])) then bif decide (0 ≤ i) && decide (i < @Nat.cast Int _ (List.length R)) then bif isJ [IntKind.i64] (List.drop (1) (List.getD R (Int.toNat i) [])) then bif !thr (List.length R0) (List.length R1) (List.length R2) (List.length R3) (hdJ (List.drop (0) (List.getD R (Int.toNat i) []))) (hdJ (List.drop (1) (List.getD R (Int.toNat i) []))) then stRT R0 p0 R1 p1 R2 p2 R3 p3 R sp false i = stRT R0 p0 R1 p1 R2 p2 R3 p3 R sp false i ∧ E Exit.ret (stRT R0 p0 R1 p1 R2 p2 R3 p3 R sp false i) else stRT R0 p0 R1 p1 R2 p2 R3 p3 R sp v (IntKind.wrap IntKind.i64 (i + 1)) = stRT R0 p0 R1 p1 R2 p2 R3 p3 R sp v (IntKind.wrap IntKind.i64 (i + 1)) ∧ N (stRT R0 p0 R1 p1 R2 p2 R3 p3 R sp v (IntKind.wrap IntKind.i64 (i + 1))) else False else False else False else False else stRT R0 p0 R1 p1 R2 p2 R3 p3 R sp v i = stRT R0 p0 R1 p1 R2 p2 R3 p3 R sp v i ∧ E (Exit.exit (0)) (stRT R0 p0 R1 p1 R2 p2 R3 p3 R sp v i)) := by kernel_rfl
end

section
open Go Go.Proofs
def fRT (a b c d l : List (List Int)) (sp p0 p1 p2 p3 : List (List D)) : LSum := ZcU [1, 2, 4, 5] [3] (fun i => stRT (mZ a) p0 (mZ b) p1 (mZ c) p2 (mZ d) p3 (mZ l) sp false i) (fun i => stRT (mZ a) p0 (mZ b) p1 (mZ c) p2 (mZ d) p3 (mZ l) sp false i) (l.length) (fun i => !thv a b c d (l.getD i [])) .ret (.exit 0)
theorem kRT {a b c d l : List (List Int)} {sp p0 p1 p2 p3 : List (List D)} (ha : wid 3 a) (hb : wid 3 b) (hc : wid 3 c) (hd : wid 3 d) (hw : wid 3 l) (hn : l.length ≤ 9223372036854775807) (Q : Exit → X → Prop) (x : X) (h : fRT a b c d l sp p0 p1 p2 p3 Q x) : XWP Tryz.prog (.loop (Zan Tryz.f165 0)) Q x := by
  refine Zcm (sw := []) (V := Zgx (mZ a) p0 (mZ b) p1 (mZ c) p2 (mZ d) p3 (mZ l) sp) (VE := fun _ => Zgx (mZ a) p0 (mZ b) p1 (mZ c) p2 (mZ d) p3 (mZ l) sp) mixed (ZiG (mZ a) p0 (mZ b) p1 (mZ c) p2 (mZ d) p3 (mZ l) sp) (fun _ => ZiG (mZ a) p0 (mZ b) p1 (mZ c) p2 (mZ d) p3 (mZ l) sp) _ _ _ _ _ _ (fun i hl => ⟨hkA band bor [(164, Zeo)] [], ZaI (.cons Ziy .nil), Zah rfl, fun N E h1 h2 => ?_⟩) ⟨hkA band bor [(164, Zeo)] [], ZaI (.cons Ziy .nil), Zah rfl, fun N E h1 => ?_⟩ Q x h
  · rw [rRT]
    have wi : IntKind.wrap .i64 ((i : Int) + 1) = ((i + 1 : Nat) : Int) := Zat (n := 1) (by omega)
    have a0 : isJ [IntKind.i64] ((mZ l).getD i []) = true := Zav (j := 0) (n := 1) hw hl (by omega)
    have a1 : isJ [IntKind.i64] (List.drop 1 ((mZ l).getD i [])) = true := Zav (j := 1) (n := 1) hw hl (by omega)
    have a2 : isJ [IntKind.i64] (List.drop 2 ((mZ l).getD i [])) = true := Zav (j := 2) (n := 1) hw hl (by omega)
    have a3 : isJ [IntKind.i64, IntKind.i64, IntKind.i64] ((mZ l).getD i []) = true := Zav (j := 0) (n := 3) hw hl (by omega)
    simp only [Zaf, Int.ofNat_lt, hl, decide_true, cond_true, Int.natCast_nonneg, Bool.and_self, Int.toNat_natCast, a0, a1, a2, a3, List.drop_zero, ZaB, Zci, ZaG, ZaF, true_and, wi]
    unfold thv at h1 h2
    cases ht : thr a.length b.length c.length d.length ((l.getD i []).getD 0 0) ((l.getD i []).getD 1 0) with
    | false => exact h1 (by rw [ht]; rfl)
    | true => exact h2 (by rw [ht]; rfl)
  · rw [rRT]
    simp only [Zaf, Int.ofNat_lt, Nat.lt_irrefl, decide_false, cond_false, true_and]
    exact h1
theorem s4 {R0 R1 R2 R3 R : List (List D)} (h : (okA R0 R1 R2 R3 && okZ 3 R) = true) : (R0 = mZ (toZ R0) ∧ wid 3 (toZ R0) ∧ R1 = mZ (toZ R1) ∧ wid 3 (toZ R1) ∧ R2 = mZ (toZ R2) ∧ wid 3 (toZ R2) ∧ R3 = mZ (toZ R3) ∧ wid 3 (toZ R3)) ∧ R = mZ (toZ R) ∧ wid 3 (toZ R) ∧ (toZ R).length ≤ 9223372036854775807 := by
  rw [Bool.and_eq_true] at h
  obtain ⟨h1, h2⟩ := h
  obtain ⟨q0, q1, q2, q3⟩ := Zdb h1
  obtain ⟨a1, a2, _⟩ := Zag q0
  obtain ⟨b1, b2, _⟩ := Zag q1
  obtain ⟨c1, c2, _⟩ := Zag q2
  obtain ⟨d1, d2, _⟩ := Zag q3
  obtain ⟨e1, e2, e3⟩ := Zag h2
  exact ⟨⟨a1, a2, b1, b2, c1, c2, d1, d2⟩, e1, e2, by rw [Zau]; exact e3⟩
theorem eRT (a b c d l : List (List Int)) (sp p0 p1 p2 p3 : List (List D))  (K : DV → Prop) : (askL Tryz.prog [] [(2, fRT a b c d l sp p0 p1 p2 p3)] Tryz.f165 [dA (mZ a) p0 (mZ b) p1 (mZ c) p2 (mZ d) p3, dS 3 (mZ l) sp] K) = (stRT (mZ a) p0 (mZ b) p1 (mZ c) p2 (mZ d) p3 (mZ l) sp false (0) = stRT (mZ a) p0 (mZ b) p1 (mZ c) p2 (mZ d) p3 (mZ l) sp false (0) ∧ (∀ (i : Nat), firstAt (fun i => !thv a b c d (List.getD l i [])) (List.length l) i → K (DV.c (D.v (Value.bool false)))) ∧ (noneTo (fun i => !thv a b c d (List.getD l i [])) (List.length l) → K (DV.c (D.v (Value.bool true))))) := by kernel_rfl
end

section
open Go Go.Proofs
def cv (a b c d l : List (List Int)) : Bool := gets a b c d l && l.any (badC a b c d)
theorem Zra {l : List (List Int)} {p : List Int → Bool} (h : l.any (fun r => !p r) = true) : l.all p = false := by
  rw [List.all_eq_not_any_not, h]; rfl
theorem Zps {l : List (List Int)} {p : List Int → Bool} (h : l.any (fun r => !p r) = false) : l.all p = true := by
  rw [List.all_eq_not_any_not, h]; rfl
theorem oRT : Zad Tryz.prog 165 sRT := o_of Tryz.func165 (by kernel_rfl) rfl fun ds Q h => by
  unfold sRT at h; split at h
  · rename_i R0 p0 R1 p1 R2 p2 R3 p3 R sp
    obtain ⟨h1, h2⟩ := Zae h
    have hA := h1
    rw [Bool.and_eq_true] at hA
    obtain ⟨⟨a1, a2, b1, b2, c1, c2, d1, d2⟩, e1, e2, e3⟩ := s4 h1
    have hA' := hA
    rw [a1, b1, c1, d1, e1] at hA'
    rw [a1, b1, c1, d1, e1]
    generalize toZ R0 = a at *
    generalize toZ R1 = b at *
    generalize toZ R2 = c at *
    generalize toZ R3 = d at *
    generalize toZ R = l at *
    refine ⟨_, ZaK (l := []) (m := [(2, fRT a b c d l sp p0 p1 p2 p3)]) .nil mixed (ZbK rfl (by kernel_rfl) (kRT a2 b2 c2 d2 e2 e3)) Tryz.func165 rfl rfl rfl ?_, rfl, rfl, h2⟩
    rw [eRT]
    refine ⟨by trivial, fun i hi => ?_, fun hn => ?_⟩
    · have := hi.any (l := l) (d := []) (p := fun r => !thv a b c d r)
      rw [Zra this]
    · have := hn.any (l := l) (d := []) (p := fun r => !thv a b c d r)
      rw [Zps this]
  · exact h.elim
end

section
open Go Go.Proofs
def plc (x y : Int) : Int := IntKind.wrap .i64 (IntKind.wrap .i64 (4 * x) + y)
theorem ePl (x y : Int) (K : DV → Prop) : (ask Tryz.prog [] Tryz.f141 [I x, I y] K) = (K (DV.c (D.v (Value.int IntKind.i64 (IntKind.wrap IntKind.i64 (IntKind.wrap IntKind.i64 (4 * x) + y)))))) := by kernel_rfl
def sPl : Spec := fun ds Q => match ds with | [.c (.v (.int .i64 x)), .c (.v (.int .i64 y))] => Q (I (plc x y)) | _ => False
theorem oPl : Zad Tryz.prog 141 sPl := o_of Tryz.func141 (by kernel_rfl) rfl fun ds Q h => by
  unfold sPl at h; split at h
  · rename_i x y
    refine ⟨_, Zaj .nil mixed Tryz.func141 rfl rfl rfl ?_, rfl, rfl, h⟩
    rw [ePl]; rfl
  · exact h.elim
def ior (a b : Int) : Int := bif a != 0 then a else b
theorem eOr (a b : Int) (K : DV → Prop) : (ask Tryz.prog [] Tryz.f180 [dS 1 [[vI a], [vI b]] []] K) = (bif a != 0 then K (DV.c (D.v (Value.int IntKind.i64 a))) else bif b != 0 then K (DV.c (D.v (Value.int IntKind.i64 b))) else K (DV.c (D.v (Value.int IntKind.i64 (0))))) := by kernel_rfl
def sOr : Spec := fun ds Q => match ds with | [.c (.s 0 1 [[.v (.int .i64 a)], [.v (.int .i64 b)]] [])] => Q (I (ior a b)) | _ => False
theorem oOr : Zad Tryz.prog 180 sOr := o_of Tryz.func180 (by kernel_rfl) rfl fun ds Q h => by
  unfold sOr at h; split at h
  · rename_i a b
    refine ⟨_, Zaj .nil mixed Tryz.func180 rfl rfl rfl ?_, rfl, rfl, h⟩
    rw [eOr]; unfold ior
    cases ha : (a != 0) with
    | true => rfl
    | false =>
      by_cases hb : b = 0
      · subst hb; rfl
      · have : (b != 0) = true := by simpa using hb
        rw [this]; rfl
  · exact h.elim
theorem eRow (a b c x y z : Int) (K : DV → Prop) : (ask Tryz.prog [(180, sOr)] Tryz.f139 [.agg [vI a, vI b, vI c], .agg [vI x, vI y, vI z]] K) = (K (DV.c (D.v (Value.int IntKind.i64 (ior (IntKind.wrap IntKind.i64 (a - x)) (IntKind.wrap IntKind.i64 (b - y))))))) := by kernel_rfl
def rw3 (r : List Int) (a b : Int) : Int := ior (IntKind.wrap .i64 (r.getD 0 0 - a)) (IntKind.wrap .i64 (r.getD 1 0 - b))
def sRow : Spec := fun ds Q => match ds with | [.agg [.v (.int .i64 a), .v (.int .i64 b), .v (.int .i64 c)], .agg [.v (.int .i64 x), .v (.int .i64 y), .v (.int .i64 z)]] => Q (I (rw3 [a, b, c] x y)) | _ => False
theorem oRow : Zad Tryz.prog 139 sRow := o_of Tryz.func139 (by kernel_rfl) rfl fun ds Q h => by
  unfold sRow at h; split at h
  · rename_i a b c x y z
    refine ⟨_, Zaj (.cons oOr .nil) mixed Tryz.func139 rfl rfl rfl ?_, rfl, rfl, h⟩
    rw [eRow]; rfl
  · exact h.elim
def bsR (p : Nat → Bool) : Nat → Nat → Nat → Nat
  | 0, i, _ => i
  | f + 1, i, j => bif decide (i < j) then (bif p ((i + j) / 2) then bsR p f ((i + j) / 2 + 1) j else bsR p f i ((i + j) / 2)) else i
theorem ZeY (p : Nat → Bool) : ∀ (f g i j : Nat), j - i ≤ f → j - i ≤ g → bsR p f i j = bsR p g i j
  | 0, 0, i, j, _, _ => rfl
  | 0, g + 1, i, j, h, _ => by
    have : ¬ (i < j) := by omega
    simp [bsR, this]
  | f + 1, 0, i, j, _, h => by
    have : ¬ (i < j) := by omega
    simp [bsR, this]
  | f + 1, g + 1, i, j, h1, h2 => by
    by_cases hij : i < j
    · simp only [bsR, hij, decide_true, cond_true]
      rw [ZeY p f g ((i + j) / 2 + 1) j (by omega) (by omega), ZeY p f g i ((i + j) / 2) (by omega) (by omega)]
    · simp [bsR, hij]
def bsAt (p : Nat → Bool) (n : Nat) : Nat := bsR p n 0 n
theorem Zmw (p : Nat → Bool) : ∀ (f i j : Nat), i ≤ j → bsR p f i j ≤ j
  | 0, i, j, h => h
  | f + 1, i, j, h => by
    by_cases hij : i < j
    · simp only [bsR, hij, decide_true, cond_true]
      cases p ((i + j) / 2) with
      | true => exact Zmw p f _ _ (by omega)
      | false => exact Nat.le_trans (Zmw p f _ _ (by omega)) (by omega)
    · simp [bsR, hij]; exact h
theorem ZoW {i j : Nat} (h : i + j ≤ 9223372036854775807) : IntKind.wrap .i64 (Int.fdiv (IntKind.wrap .u64 (IntKind.wrap .i64 ((i : Int) + (j : Int)))) 2) = (((i + j) / 2 : Nat) : Int) := by
  have e1 : IntKind.wrap .i64 ((i : Int) + (j : Int)) = ((i + j : Nat) : Int) := by rw [IntKind.wrap_i64]; omega
  have e2 : IntKind.wrap .u64 ((i + j : Nat) : Int) = ((i + j : Nat) : Int) := by
    have : IntKind.wrap .u64 ((i + j : Nat) : Int) = ((i + j : Nat) : Int) % 18446744073709551616 := rfl
    rw [this]; omega
  rw [e1, e2]
  have e3 : Int.fdiv ((i + j : Nat) : Int) 2 = (((i + j) / 2 : Nat) : Int) := by rw [Int.fdiv_eq_ediv_of_nonneg _ (by omega)]; omega
  rw [e3, IntKind.wrap_i64]; omega
def sBS (R sp : List (List D)) (a b c : Int) (i j : Int) : X := ⟨mkT 49 [(0, aS 3 R sp), (2, .c (.d (.f 139 [] []))), (4, .c (.rp 5 0 3 0 0)), (8, ai R.length), (9, ai i), (10, ai j)], [(5, .bx 0 3 [.d (vI a), .d (vI b), .d (vI c)])], [], []⟩
def vBS (R sp : List (List D)) (a b c : Int) : Vw := fun y K => wI y 9 fun i => wI y 10 fun j => K (sBS R sp a b c i j)
theorem ZpJ (R sp : List (List D)) (a b c : Int) : VwOK (vBS R sp a b c) := fun y K h => by
  unfold vBS at h
  obtain ⟨i, h⟩ := Zby h
  obtain ⟨j, h⟩ := Zby h
  exact ⟨_, h⟩
theorem rBS (R sp : List (List D)) (a b c : Int) (i j : Int) (N : X → Prop) (E : Exit → X → Prop) : (ZbJ Tryz.prog (hkA band bor [(139, sRow)] []) Tryz.f138 0 [] [0, 2, 4, 8, 9, 10] [5] (vBS R sp a b c) (vBS R sp a b c) N E (sBS R sp a b c i j)) = (bif decide (i < j) then bif decide (0 ≤ IntKind.wrap IntKind.i64 (Int.fdiv (IntKind.wrap IntKind.u64 (IntKind.wrap IntKind.i64 (i + j))) (2))) && decide (IntKind.wrap IntKind.i64 (Int.fdiv (IntKind.wrap IntKind.u64 (IntKind.wrap IntKind.i64 (i + j))) (2)) < @Nat.cast Int _ (List.length R)) then bif isJ [IntKind.i64, IntKind.i64, IntKind.i64] (List.drop (0) (List.getD R (Int.toNat (IntKind.wrap IntKind.i64 (Int.fdiv (IntKind.wrap IntKind.u64 (IntKind.wrap IntKind.i64 (i + j))) (2)))) [])) then bif decide (rw3 [hdJ (List.drop (0) (List.getD R (Int.toNat (IntKind.wrap IntKind.i64 (Int.fdiv (IntKind.wrap IntKind.u64 (IntKind.wrap IntKind.i64 (i + j))) (2)))) [])), hdJ (List.tail (List.drop (0) (List.getD R (Int.toNat (IntKind.wrap IntKind.i64 (Int.fdiv (IntKind.wrap IntKind.u64 (IntKind.wrap IntKind.i64 (i + j))) (2)))) []))), hdJ (List.tail (List.tail (List.drop (0) (List.getD R (Int.toNat (IntKind.wrap IntKind.i64 (Int.fdiv (IntKind.wrap IntKind.u64 (IntKind.wrap IntKind.i64 (i + j))) (2)))) []))))] a b < 0) then sBS R sp a b c (IntKind.wrap IntKind.i64 (IntKind.wrap IntKind.i64 (Int.fdiv (IntKind.wrap IntKind.u64 (IntKind.wrap IntKind.i64 (i + j))) (2)) + 1)) j = sBS R sp a b c (IntKind.wrap IntKind.i64 (IntKind.wrap IntKind.i64 (Int.fdiv (IntKind.wrap IntKind.u64 (IntKind.wrap IntKind.i64 (i + j))) (2)) + 1)) j ∧ N (sBS R sp a b c (IntKind.wrap IntKind.i64 (IntKind.wrap IntKind.i64 (Int.fdiv (IntKind.wrap IntKind.u64 (IntKind.wrap IntKind.i64 (i + j))) (2)) + 1)) j) else sBS R sp a b c i (IntKind.wrap IntKind.i64 (Int.fdiv (IntKind.wrap IntKind.u64 (IntKind.wrap IntKind.i64 (i + j))) (2))) = sBS R sp a b c i (IntKind.wrap IntKind.i64 (Int.fdiv (IntKind.wrap IntKind.u64 (IntKind.wrap IntKind.i64 (i + j))) (2))) ∧ N (sBS R sp a b c i (IntKind.wrap IntKind.i64 (Int.fdiv (IntKind.wrap IntKind.u64 (IntKind.wrap IntKind.i64 (i + j))) (2)))) else False else False else sBS R sp a b c i j = sBS R sp a b c i j ∧ E (Exit.exit (0)) (sBS R sp a b c i j)) := by kernel_rfl
def ltW (l : List (List Int)) (a b : Int) (h : Nat) : Bool := decide (rw3 (l.getD h []) a b < 0)
def fBS (l : List (List Int)) (sp : List (List D)) (a b c : Int) : LSum := fun Q x => x.arr [0, 2, 4, 8, 9, 10] [5] = sBS (mZ l) sp a b c 0 (mZ l).length ∧ ∀ j, Q (.exit 0) (sBS (mZ l) sp a b c (bsAt (ltW l a b) l.length : Nat) j)
theorem kBS {l : List (List Int)} {sp : List (List D)} {a b c : Int} (hw : wid 3 l) (hn : 2 * l.length ≤ 9223372036854775807) (Q : Exit → X → Prop) (x : X) (h : fBS l sp a b c Q x) : XWP Tryz.prog (.loop (Zan Tryz.f138 0)) Q x := by
  obtain ⟨h1, h2⟩ := h
  refine Zmk (ι := Nat × Nat) (H := hkA band bor [(139, sRow)] []) [] (ZaI (.cons oRow .nil)) mixed (Zah rfl) (fun p => sBS (mZ l) sp a b c p.1 p.2) (fun p => p.1 ≤ p.2 ∧ p.2 ≤ l.length ∧ bsR (ltW l a b) (p.2 - p.1) p.1 p.2 = bsAt (ltW l a b) l.length) (fun p => p.2 - p.1) (0, l.length) (vBS (mZ l) sp a b c) (vBS (mZ l) sp a b c) (ZpJ _ _ _ _ _) (ZpJ _ _ _ _ _) (fun p hp => ?_) ⟨Nat.zero_le _, Nat.le_refl _, rfl⟩ (by rw [Zaf] at h1; exact h1)
  obtain ⟨i, j⟩ := p
  obtain ⟨q1, q2, q3⟩ := hp
  simp only at q1 q2 q3 ⊢
  rw [rBS]
  by_cases hij : i < j
  · have hmw := ZoW (i := i) (j := j) (by omega)
    have hml : (i + j) / 2 < l.length := by omega
    have hj1 : isJ [IntKind.i64, IntKind.i64, IntKind.i64] ((mZ l).getD ((i + j) / 2) []) = true := Zav (j := 0) (n := 3) hw hml (by omega)
    have w1 : IntKind.wrap .i64 ((((i + j) / 2 : Nat) : Int) + 1) = (((i + j) / 2 + 1 : Nat) : Int) := Zat (n := 1) (by omega)
    obtain ⟨d, hd⟩ : ∃ d, j - i = d + 1 := ⟨j - i - 1, by omega⟩
    have hp : decide (rw3 [(l.getD ((i + j) / 2) []).getD 0 0, (l.getD ((i + j) / 2) []).getD 1 0, (l.getD ((i + j) / 2) []).getD 2 0] a b < 0) = ltW l a b ((i + j) / 2) := rfl
    simp only [hmw, Zaf, Int.ofNat_lt, hij, hml, decide_true, cond_true, Int.natCast_nonneg, Bool.and_self, Int.toNat_natCast, List.drop_zero, ZaG, ZaF, ZaB, hj1, w1, true_and, hp]
    rw [hd] at q3
    simp only [bsR, hij, decide_true, cond_true] at q3
    cases hpp : ltW l a b ((i + j) / 2) with
    | true =>
      rw [hpp] at q3
      simp only [cond_true] at q3 ⊢
      exact ⟨((i + j) / 2 + 1, j), by simp; omega, ⟨by simp; omega, q2, by rw [← q3]; exact ZeY _ _ _ _ _ (Nat.le_refl _) (by simp; omega)⟩, rfl⟩
    | false =>
      rw [hpp] at q3
      simp only [cond_false] at q3 ⊢
      exact ⟨(i, (i + j) / 2), by simp; omega, ⟨by simp; omega, by simp; omega, by rw [← q3]; exact ZeY _ _ _ _ _ (Nat.le_refl _) (by simp; omega)⟩, rfl⟩
  · have e : i = j := by omega
    subst e
    have hs : bsAt (ltW l a b) l.length = i := by rw [← q3]; cases (i - i) <;> simp [bsR]
    have h3 := h2 (i : Nat)
    rw [hs] at h3
    have hlt : decide ((i : Int) < (i : Int)) = false := by simp
    rw [hlt]
    exact ⟨rfl, h3⟩
theorem eBS (l : List (List Int)) (sp : List (List D)) (a b c : Int) (K : DV → Prop) : (askL Tryz.prog [(139, sRow)] [(3, fBS l sp a b c)] Tryz.f138 [dS 3 (mZ l) sp, .agg [vI a, vI b, vI c], .c (.f 139 [] [])] K) = (sBS (mZ l) sp a b c (0) (@Nat.cast Int _ (List.length (mZ l))) = sBS (mZ l) sp a b c (0) (@Nat.cast Int _ (List.length (mZ l))) ∧ ∀ (j : Int), bif decide (@Nat.cast Int _ (bsAt (ltW l a b) (List.length l)) < @Nat.cast Int _ (List.length (mZ l))) then bif decide (0 ≤ @Nat.cast Int _ (bsAt (ltW l a b) (List.length l))) && decide (@Nat.cast Int _ (bsAt (ltW l a b) (List.length l)) < @Nat.cast Int _ (List.length (mZ l))) then bif isJ [IntKind.i64, IntKind.i64, IntKind.i64] (List.drop (0) (List.getD (mZ l) (Int.toNat (@Nat.cast Int _ (bsAt (ltW l a b) (List.length l)))) [])) then K (DV.tup [DV.c (D.v (Value.int IntKind.i64 (@Nat.cast Int _ (bsAt (ltW l a b) (List.length l))))), DV.c (D.v (Value.bool (rw3 [hdJ (List.drop (0) (List.getD (mZ l) (Int.toNat (@Nat.cast Int _ (bsAt (ltW l a b) (List.length l)))) [])), hdJ (List.tail (List.drop (0) (List.getD (mZ l) (Int.toNat (@Nat.cast Int _ (bsAt (ltW l a b) (List.length l)))) []))), hdJ (List.tail (List.tail (List.drop (0) (List.getD (mZ l) (Int.toNat (@Nat.cast Int _ (bsAt (ltW l a b) (List.length l)))) []))))] a b == 0)))]) else False else False else K (DV.tup [DV.c (D.v (Value.int IntKind.i64 (@Nat.cast Int _ (bsAt (ltW l a b) (List.length l))))), DV.c (D.v (Value.bool false))])) := by kernel_rfl
theorem ZrG (p : Nat → Bool) (n : Nat) : bsAt p n ≤ n := Zmw p n 0 n (Nat.zero_le _)
def isW (l : List (List Int)) (a b : Int) : Bool := bif decide (bsAt (ltW l a b) l.length < l.length) then rw3 (l.getD (bsAt (ltW l a b) l.length) []) a b == 0 else false
def sBSF : Spec := fun ds Q => match ds with | [.c (.s 0 3 R sp), .agg [.v (.int .i64 a), .v (.int .i64 b), .v (.int .i64 c)], .c (.f 139 [] [])] => cond (okZ 3 R && decide (R.length ≤ 4611686018427387903)) (Q (.tup [I (bsAt (ltW (toZ R) a b) (toZ R).length : Nat), B (isW (toZ R) a b)])) False | _ => False
theorem oBSF : Zad Tryz.prog 138 sBSF := o_of Tryz.func138 (by kernel_rfl) rfl fun ds Q h => by
  unfold sBSF at h; split at h
  · rename_i R sp a b c
    obtain ⟨h1, h2⟩ := Zae h
    simp only [Bool.and_eq_true, decide_eq_true_eq] at h1
    obtain ⟨e1, w1, n1⟩ := Zag h1.1
    have n2 := h1.2
    rw [e1] at n2 ⊢
    rw [Zaf] at n2
    generalize toZ R = l at *
    refine ⟨_, ZaK (l := [(139, sRow)]) (m := [(3, fBS l sp a b c)]) (.cons oRow .nil) mixed (ZbK rfl (by kernel_rfl) (kBS w1 (by omega))) Tryz.func138 rfl rfl rfl ?_, rfl, rfl, h2⟩
    rw [eBS]
    refine ⟨rfl, fun j => ?_⟩
    have hle := ZrG (ltW l a b) l.length
    unfold isW
    generalize hat : bsAt (ltW l a b) l.length = at' at *
    by_cases hl : at' < l.length
    · have hj1 : isJ [IntKind.i64, IntKind.i64, IntKind.i64] ((mZ l).getD at' []) = true := Zav (j := 0) (n := 3) w1 hl (by omega)
      have hp : rw3 [(l.getD at' []).getD 0 0, (l.getD at' []).getD 1 0, (l.getD at' []).getD 2 0] a b = rw3 (l.getD at' []) a b := rfl
      simp only [Zaf, Int.ofNat_lt, hl, decide_true, cond_true, Int.natCast_nonneg, Bool.and_self, Int.toNat_natCast, List.drop_zero, ZaG, ZaF, ZaB, hj1, hp]
    · simp only [Zaf, Int.ofNat_lt, hl, decide_false, cond_false]
  · exact h.elim
end

section
open Go Go.Proofs
def okw (r : List Int) : Bool := bif lab (r.getD 0 0) then bif ix4 (r.getD 1 0) then val8 (r.getD 2 0) else false else false
def ZdT (l : List (List Int)) (i : Nat) : Bool := !okw (l.getD i []) || (decide (0 < i) && decide (rw3 (l.getD (i - 1) []) ((l.getD i []).getD 0 0) ((l.getD i []).getD 1 0) ≥ 0))
def ZbQ (l : List (List Int)) : Bool := decide (l.length ≤ 16) && !(List.range l.length).any (ZdT l)
def stWM (R sp : List (List D)) (v : Bool) (i : Int) : X := ⟨mkT 46 [(0, aS 3 R sp), (2, ab v), (5, aS 3 R sp), (6, ai R.length), (7, ai i)], [], [], []⟩
def vWM (R sp : List (List D)) : Vw := fun y K => wB y 2 fun v => wI y 7 fun i => K (stWM R sp v i)
theorem Zp1 (R sp : List (List D)) : VwOK (vWM R sp) := fun y K h => by
  unfold vWM at h
  obtain ⟨v, h⟩ := Zdj h
  obtain ⟨i, h⟩ := Zby h
  exact ⟨_, h⟩
theorem rWM (R sp : List (List D)) (v : Bool) (i : Int) (N : X → Prop) (E : Exit → X → Prop) : (ZbJ Tryz.prog (hkA band bor [(64, sB lab), (153, sB ix4), (115, sB val8), (139, sRow)] []) Tryz.f106 0 [] [0, 2, 5, 6, 7] [] (vWM R sp) (vWM R sp) N E (stWM R sp v i)) = (bif decide (i < @Nat.cast Int _ (List.length R)) then bif decide (0 ≤ i) && decide (i < @Nat.cast Int _ (List.length R)) then bif isJ [IntKind.i64, IntKind.i64, IntKind.i64] (List.drop (0) (List.getD R (Int.toNat i) [])) then bif !lab (hdJ (List.drop (0) (List.getD R (Int.toNat i) []))) then stWM R sp false i = stWM R sp false i ∧ E Exit.ret (stWM R sp false i) else bif !ix4 (hdJ (List.tail (List.drop (0) (List.getD R (Int.toNat i) [])))) then stWM R sp false i = stWM R sp false i ∧ E Exit.ret (stWM R sp false i) else bif !val8 (hdJ (List.tail (List.tail (List.drop (0) (List.getD R (Int.toNat i) []))))) then stWM R sp false i = stWM R sp false i ∧ E Exit.ret (stWM R sp false i) else bif decide (i > 0) then bif decide (0 ≤ IntKind.wrap IntKind.i64 (i - 1)) && decide (IntKind.wrap IntKind.i64 (i - 1) < @Nat.cast Int _ (List.length R)) then bif isJ [IntKind.i64, IntKind.i64, IntKind.i64] (List.drop (0) (List.getD R (Int.toNat (IntKind.wrap IntKind.i64 (i - 1))) [])) then bif decide (rw3 [hdJ (List.drop (0) (List.getD R (Int.toNat (IntKind.wrap IntKind.i64 (i - 1))) [])), hdJ (List.tail (List.drop (0) (List.getD R (Int.toNat (IntKind.wrap IntKind.i64 (i - 1))) []))), hdJ (List.tail (List.tail (List.drop (0) (List.getD R (Int.toNat (IntKind.wrap IntKind.i64 (i - 1))) []))))] (hdJ (List.drop (0) (List.getD R (Int.toNat i) []))) (hdJ (List.tail (List.drop (0) (List.getD R (Int.toNat i) [])))) ≥ 0) then stWM R sp false i = stWM R sp false i ∧ E Exit.ret (stWM R sp false i) else stWM R sp v (IntKind.wrap IntKind.i64 (i + 1)) = stWM R sp v (IntKind.wrap IntKind.i64 (i + 1)) ∧ N (stWM R sp v (IntKind.wrap IntKind.i64 (i + 1))) else False else False else stWM R sp v (IntKind.wrap IntKind.i64 (i + 1)) = stWM R sp v (IntKind.wrap IntKind.i64 (i + 1)) ∧ N (stWM R sp v (IntKind.wrap IntKind.i64 (i + 1))) else False else False else stWM R sp v i = stWM R sp v i ∧ E (Exit.exit (0)) (stWM R sp v i)) := by kernel_rfl
def stWP (R sp : List (List D)) (v : Bool) (i : Int) : X := ⟨mkT 65 [(0, aS 3 R sp), (2, ab v), (3, ai i)], [], [], []⟩
def vWP (R sp : List (List D)) : Vw := fun y K => wB y 2 fun v => wI y 3 fun i => K (stWP R sp v i)
theorem ZpX (R sp : List (List D)) : VwOK (vWP R sp) := fun y K h => by
  unfold vWP at h
  obtain ⟨v, h⟩ := Zdj h
  obtain ⟨i, h⟩ := Zby h
  exact ⟨_, h⟩
theorem rWP (R sp : List (List D)) (v : Bool) (i : Int) (N : X → Prop) (E : Exit → X → Prop) : (ZbJ Tryz.prog (hkA band bor [(166, sWN), (91, sB val8), (141, sPl)] []) Tryz.f123 0 [] [0, 2, 3] [] (vWP R sp) (vWP R sp) N E (stWP R sp v i)) = (bif decide (i < @Nat.cast Int _ (List.length R)) then bif decide (0 ≤ i) && decide (i < @Nat.cast Int _ (List.length R)) then bif isJ [IntKind.i64] (List.drop (0) (List.getD R (Int.toNat i) [])) then bif decide (0 ≤ i) && decide (i < @Nat.cast Int _ (List.length R)) then bif isJ [IntKind.i64] (List.drop (1) (List.getD R (Int.toNat i) [])) then bif !wnm (hdJ (List.drop (0) (List.getD R (Int.toNat i) []))) (hdJ (List.drop (1) (List.getD R (Int.toNat i) []))) then stWP R sp false i = stWP R sp false i ∧ E Exit.ret (stWP R sp false i) else bif decide (0 ≤ i) && decide (i < @Nat.cast Int _ (List.length R)) then bif isJ [IntKind.i64] (List.drop (2) (List.getD R (Int.toNat i) [])) then bif !val8 (hdJ (List.drop (2) (List.getD R (Int.toNat i) []))) then stWP R sp false i = stWP R sp false i ∧ E Exit.ret (stWP R sp false i) else bif decide (i > 0) then bif decide (0 ≤ i) && decide (i < @Nat.cast Int _ (List.length R)) then bif isJ [IntKind.i64] (List.drop (0) (List.getD R (Int.toNat i) [])) then bif decide (0 ≤ i) && decide (i < @Nat.cast Int _ (List.length R)) then bif isJ [IntKind.i64] (List.drop (1) (List.getD R (Int.toNat i) [])) then bif decide (0 ≤ IntKind.wrap IntKind.i64 (i - 1)) && decide (IntKind.wrap IntKind.i64 (i - 1) < @Nat.cast Int _ (List.length R)) then bif isJ [IntKind.i64] (List.drop (0) (List.getD R (Int.toNat (IntKind.wrap IntKind.i64 (i - 1))) [])) then bif decide (0 ≤ IntKind.wrap IntKind.i64 (i - 1)) && decide (IntKind.wrap IntKind.i64 (i - 1) < @Nat.cast Int _ (List.length R)) then bif isJ [IntKind.i64] (List.drop (1) (List.getD R (Int.toNat (IntKind.wrap IntKind.i64 (i - 1))) [])) then bif decide (plc (hdJ (List.drop (0) (List.getD R (Int.toNat i) []))) (hdJ (List.drop (1) (List.getD R (Int.toNat i) []))) ≤ plc (hdJ (List.drop (0) (List.getD R (Int.toNat (IntKind.wrap IntKind.i64 (i - 1))) []))) (hdJ (List.drop (1) (List.getD R (Int.toNat (IntKind.wrap IntKind.i64 (i - 1))) [])))) then stWP R sp false i = stWP R sp false i ∧ E Exit.ret (stWP R sp false i) else stWP R sp v (IntKind.wrap IntKind.i64 (i + 1)) = stWP R sp v (IntKind.wrap IntKind.i64 (i + 1)) ∧ N (stWP R sp v (IntKind.wrap IntKind.i64 (i + 1))) else False else False else False else False else False else False else False else False else stWP R sp v (IntKind.wrap IntKind.i64 (i + 1)) = stWP R sp v (IntKind.wrap IntKind.i64 (i + 1)) ∧ N (stWP R sp v (IntKind.wrap IntKind.i64 (i + 1))) else False else False else False else False else False else False else stWP R sp v i = stWP R sp v i ∧ E (Exit.exit (0)) (stWP R sp v i)) := by kernel_rfl
theorem Zjd {m : Nat} (h : m + 1 ≤ 9223372036854775807) : IntKind.wrap .i64 (((m + 1 : Nat) : Int) - 1) = ((m : Nat) : Int) := by rw [IntKind.wrap_i64]; omega
def fWM (l : List (List Int)) (sp : List (List D)) : LSum := ZcU [0, 2, 5, 6, 7] [] (fun i => stWM (mZ l) sp false i) (fun i => stWM (mZ l) sp false i) l.length (ZdT l) .ret (.exit 0)
theorem kWM {l : List (List Int)} {sp : List (List D)} (hw : wid 3 l) (hn : l.length ≤ 9223372036854775807) (Q : Exit → X → Prop) (x : X) (h : fWM l sp Q x) : XWP Tryz.prog (.loop (Zan Tryz.f106 0)) Q x := by
  refine ZbT (H := hkA band bor [(64, sB lab), (153, sB ix4), (115, sB val8), (139, sRow)] []) (sw := []) (V := vWM (mZ l) sp) (VE := vWM (mZ l) sp) (ZaI (.cons oLab (.cons oIdx (.cons oVal (.cons oRow .nil))))) mixed (Zah rfl) (Zp1 (mZ l) sp) (Zp1 (mZ l) sp) _ _ _ _ _ _ (fun i hl N E h1 h2 => ?_) (fun N E h1 => ?_) Q x h
  · rw [rWM]
    have wi : IntKind.wrap .i64 ((i : Int) + 1) = ((i + 1 : Nat) : Int) := Zat (n := 1) (by omega)
    have hj1 : isJ [IntKind.i64, IntKind.i64, IntKind.i64] ((mZ l).getD i []) = true := Zav (j := 0) (n := 3) hw hl (by omega)
    have hz : decide (((i : Nat) : Int) > 0) = decide (0 < i) := by by_cases h : 0 < i <;> simp [h]
    simp only [Zaf, Int.ofNat_lt, hl, decide_true, cond_true, Int.natCast_nonneg, Bool.and_self, Int.toNat_natCast, ZaG, ZaF, hj1, List.drop_zero, ZaB, true_and, wi, hz]
    unfold ZdT okw at h1 h2
    revert h1 h2
    generalize lab ((l.getD i []).getD 0 0) = p1
    generalize ix4 ((l.getD i []).getD 1 0) = p2
    generalize val8 ((l.getD i []).getD 2 0) = p3
    intro h1 h2
    cases p1
    · exact h1 rfl
    cases p2
    · exact h1 rfl
    cases p3
    · exact h1 rfl
    by_cases h0 : 0 < i
    · obtain ⟨m, rfl⟩ : ∃ m, i = m + 1 := ⟨i - 1, by omega⟩
      have hlm : m < l.length := by omega
      have hj2 : isJ [IntKind.i64, IntKind.i64, IntKind.i64] ((mZ l).getD m []) = true := Zav (j := 0) (n := 3) hw hlm (by omega)
      have wp := Zjd (m := m) (by omega)
      have hr : rw3 [(l.getD m []).getD 0 0, (l.getD m []).getD 1 0, (l.getD m []).getD 2 0] ((l.getD (m + 1) []).getD 0 0) ((l.getD (m + 1) []).getD 1 0) = rw3 (l.getD m []) ((l.getD (m + 1) []).getD 0 0) ((l.getD (m + 1) []).getD 1 0) := rfl
      simp only [h0, decide_true, cond_true, wp, Int.ofNat_lt, hlm, Int.natCast_nonneg, Bool.and_self, Int.toNat_natCast, hj2, ZaB, ZaG, ZaF, hr, Nat.add_sub_cancel, Bool.not_true, Bool.true_and, Bool.false_or, cond_false] at h1 h2 ⊢
      cases hd : decide (rw3 (l.getD m []) ((l.getD (m + 1) []).getD 0 0) ((l.getD (m + 1) []).getD 1 0) ≥ 0) with
      | true => rw [hd] at h1; exact h1 rfl
      | false => rw [hd] at h2; exact h2 rfl
    · simp only [h0, decide_false, Bool.false_and, Bool.or_false, cond_true, Bool.not_true, cond_false] at h1 h2 ⊢
      exact h2 trivial
  · rw [rWM]
    simp only [Zaf, Int.ofNat_lt, Nat.lt_irrefl, decide_false, cond_false, true_and]
    exact h1
theorem eWM (l : List (List Int)) (sp : List (List D)) (K : DV → Prop) : (askL Tryz.prog [] [(2, fWM l sp)] Tryz.f106 [dS 3 (mZ l) sp] K) = (stWM (mZ l) sp false (0) = stWM (mZ l) sp false (0) ∧ (∀ (i : Nat), firstAt (ZdT l) (List.length l) i → K (DV.c (D.v (Value.bool false)))) ∧ (noneTo (ZdT l) (List.length l) → K (DV.c (D.v (Value.bool (decide (@Nat.cast Int _ (List.length (mZ l)) ≤ 16))))))) := by kernel_rfl
def sWMy : Spec := fun ds Q => match ds with | [.c (.s 0 3 R sp)] => cond (okZ 3 R) (Q (B (ZbQ (toZ R)))) False | _ => False
theorem oWMy : Zad Tryz.prog 106 sWMy := o_of Tryz.func106 (by kernel_rfl) rfl fun ds Q h => by
  unfold sWMy at h; split at h
  · rename_i R sp
    obtain ⟨h1, h2⟩ := Zae h
    obtain ⟨e1, w1, n1⟩ := Zag h1
    rw [e1]
    rw [← Zau R] at n1
    generalize toZ R = l at *
    refine ⟨_, ZaK (l := []) (m := [(2, fWM l sp)]) .nil mixed (ZbK rfl (by kernel_rfl) (kWM w1 n1)) Tryz.func106 rfl rfl rfl ?_, rfl, rfl, h2⟩
    rw [eWM]
    refine ⟨rfl, fun i hi => ?_, fun hn => ?_⟩
    · unfold ZbQ; rw [hi.b]; simp
    · unfold ZbQ; rw [hn.b]
      by_cases h : l.length ≤ 16 <;> simp [Zaf, h] <;> omega
  · exact h.elim
def key (r : List Int) : Int := 4 * r.getD 0 0 + r.getD 1 0
def badP (l : List (List Int)) (i : Nat) : Bool := !okw (l.getD i []) || (decide (0 < i) && decide (plc ((l.getD i []).getD 0 0) ((l.getD i []).getD 1 0) ≤ plc ((l.getD (i - 1) []).getD 0 0) ((l.getD (i - 1) []).getD 1 0)))
def inW (r : List Int) : Prop := (0 ≤ r.getD 0 0 ∧ r.getD 0 0 ≤ 3) ∧ (0 ≤ r.getD 1 0 ∧ r.getD 1 0 ≤ 3)
theorem ZfE {x a b : Int} : upto x a b = true ↔ a ≤ x ∧ x ≤ b := by unfold upto; simp
theorem Zcj {r : List Int} (h : okw r = true) : inW r ∧ 0 ≤ r.getD 2 0 ∧ r.getD 2 0 ≤ 255 := by
  unfold okw at h
  cases h1 : lab (r.getD 0 0) with
  | false => rw [h1] at h; cases h
  | true =>
    cases h2 : ix4 (r.getD 1 0) with
    | false => rw [h1, h2] at h; cases h
    | true => rw [h1, h2] at h; exact ⟨⟨ZfE.1 h1, ZfE.1 h2⟩, ZfE.1 h⟩
theorem wrap_small {x : Int} (h : -9223372036854775808 ≤ x ∧ x ≤ 9223372036854775807) : IntKind.wrap .i64 x = x := by rw [IntKind.wrap_i64]; omega
theorem ZhD {r : List Int} (h : inW r) : plc (r.getD 0 0) (r.getD 1 0) = key r := by
  obtain ⟨⟨h1, h2⟩, h3, h4⟩ := h
  unfold plc key
  rw [wrap_small (x := 4 * r.getD 0 0) (by omega), wrap_small (by omega)]
theorem ZfB {r : List Int} {a b : Int} (h : inW r) (ha : 0 ≤ a ∧ a ≤ 3) (hb : 0 ≤ b ∧ b ≤ 3) : (rw3 r a b < 0 ↔ key r < 4 * a + b) ∧ (rw3 r a b = 0 ↔ key r = 4 * a + b) := by
  obtain ⟨⟨h1, h2⟩, h3, h4⟩ := h
  unfold rw3 ior key
  rw [wrap_small (x := r.getD 0 0 - a) (by omega), wrap_small (x := r.getD 1 0 - b) (by omega)]
  generalize r.getD 0 0 = x at *
  generalize r.getD 1 0 = y at *
  cases hx : (x - a != 0) with
  | true => have hx : x - a ≠ 0 := by simpa using hx
            simp only [cond_true]; constructor <;> constructor <;> intro h <;> omega
  | false => have hx : x - a = 0 := by simpa using hx
             simp only [cond_false]; constructor <;> constructor <;> intro h <;> omega
def okWs (l : List (List Int)) : Prop := ∀ i, i < l.length → okw (l.getD i []) = true ∧ (0 < i → key (l.getD (i - 1) []) < key (l.getD i []))
theorem Zlc (l : List (List Int)) : (List.range l.length).any (ZdT l) = false ↔ okWs l := by
  rw [List.any_eq_false]
  constructor
  · intro h i hi
    have hb := h i (by simpa using hi)
    have hok : okw (l.getD i []) = true := by
      unfold ZdT at hb
      cases hx : okw (l.getD i []) with
      | true => rfl
      | false => rw [hx] at hb; simp at hb
    refine ⟨hok, fun h0 => ?_⟩
    have hb1 := h (i - 1) (by simp; omega)
    have hok1 : okw (l.getD (i - 1) []) = true := by
      unfold ZdT at hb1
      cases hx : okw (l.getD (i - 1) []) with
      | true => rfl
      | false => rw [hx] at hb1; simp at hb1
    unfold ZdT at hb
    rw [hok] at hb
    have hr := (Zcj hok).1
    have := (ZfB (Zcj hok1).1 hr.1 hr.2).1
    simp only [h0, decide_true, Bool.not_true, Bool.false_or, Bool.true_and, decide_eq_true_eq] at hb
    have := this.1 (by omega)
    unfold key at this ⊢
    omega
  · intro h i hi
    obtain ⟨h1, h2⟩ := h i (by simpa using hi)
    unfold ZdT
    rw [h1]
    by_cases h0 : 0 < i
    · have hi' : i < l.length := by simpa using hi
      have hok1 := (h (i - 1) (by omega)).1
      have hr := (Zcj h1).1
      have := (ZfB (Zcj hok1).1 hr.1 hr.2).1
      have := this.2 (by have := h2 h0; unfold key at this ⊢; omega)
      simp only [h0, decide_true, Bool.not_true, Bool.false_or, Bool.true_and, decide_eq_true_eq]; omega
    · simp only [h0, decide_false, Bool.not_true, Bool.false_or, Bool.false_and]; simp
theorem Zpr (l : List (List Int)) : (List.range l.length).any (badP l) = false ↔ okWs l := by
  rw [List.any_eq_false]
  constructor
  · intro h i hi
    have hb := h i (by simpa using hi)
    have hok : okw (l.getD i []) = true := by
      unfold badP at hb
      cases hx : okw (l.getD i []) with
      | true => rfl
      | false => rw [hx] at hb; simp at hb
    refine ⟨hok, fun h0 => ?_⟩
    have hb1 := h (i - 1) (by simp; omega)
    have hok1 : okw (l.getD (i - 1) []) = true := by
      unfold badP at hb1
      cases hx : okw (l.getD (i - 1) []) with
      | true => rfl
      | false => rw [hx] at hb1; simp at hb1
    unfold badP at hb
    rw [hok, ZhD (Zcj hok).1, ZhD (Zcj hok1).1] at hb
    simp only [h0, decide_true, Bool.not_true, Bool.false_or, Bool.true_and, decide_eq_true_eq] at hb
    omega
  · intro h i hi
    obtain ⟨h1, h2⟩ := h i (by simpa using hi)
    unfold badP
    rw [h1]
    by_cases h0 : 0 < i
    · have hi' : i < l.length := by simpa using hi
      have hok1 := (h (i - 1) (by omega)).1
      rw [ZhD (Zcj h1).1, ZhD (Zcj hok1).1]
      have := h2 h0
      simp only [h0, decide_true, Bool.not_true, Bool.false_or, Bool.true_and, decide_eq_true_eq]; omega
    · simp only [h0, decide_false, Bool.not_true, Bool.false_or, Bool.false_and]; simp
theorem Zsw (l : List (List Int)) : (List.range l.length).any (badP l) = (List.range l.length).any (ZdT l) := by
  have h1 := Zpr l
  have h2 := Zlc l
  cases hp : (List.range l.length).any (badP l) with
  | false => rw [h2.2 (h1.1 hp)]
  | true =>
    cases hw : (List.range l.length).any (ZdT l) with
    | true => rfl
    | false => rw [h1.2 (h2.1 hw)] at hp; cases hp
theorem Zo8 (l : List (List Int)) : ZbQ l = true ↔ l.length ≤ 16 ∧ okWs l := by
  unfold ZbQ
  simp only [Bool.and_eq_true, decide_eq_true_eq, Bool.not_eq_true', Zlc]
def fWP (l : List (List Int)) (sp : List (List D)) : LSum := ZcU [0, 2, 3] [] (fun i => stWP (mZ l) sp false i) (fun i => stWP (mZ l) sp false i) l.length (badP l) .ret (.exit 0)
theorem kWP {l : List (List Int)} {sp : List (List D)} (hw : wid 3 l) (hn : l.length ≤ 9223372036854775807) (Q : Exit → X → Prop) (x : X) (h : fWP l sp Q x) : XWP Tryz.prog (.loop (Zan Tryz.f123 0)) Q x := by
  refine ZbT (H := hkA band bor [(166, sWN), (91, sB val8), (141, sPl)] []) (sw := []) (V := vWP (mZ l) sp) (VE := vWP (mZ l) sp) (ZaI (.cons oWN (.cons Zfn (.cons oPl .nil)))) mixed (Zah rfl) (ZpX (mZ l) sp) (ZpX (mZ l) sp) _ _ _ _ _ _ (fun i hl N E h1 h2 => ?_) (fun N E h1 => ?_) Q x h
  · rw [rWP]
    have wi : IntKind.wrap .i64 ((i : Int) + 1) = ((i + 1 : Nat) : Int) := Zat (n := 1) (by omega)
    have hj0 : isJ [IntKind.i64] (((mZ l).getD i [])) = true := ZcZ (j := 0) hw hl (by omega)
    have hj1 : isJ [IntKind.i64] (((mZ l).getD i []).drop 1) = true := ZcZ (j := 1) hw hl (by omega)
    have hj2 : isJ [IntKind.i64] (((mZ l).getD i []).drop 2) = true := ZcZ (j := 2) hw hl (by omega)
    have hz : decide (((i : Nat) : Int) > 0) = decide (0 < i) := by by_cases h : 0 < i <;> simp [h]
    simp only [Zaf, Int.ofNat_lt, hl, decide_true, cond_true, Int.natCast_nonneg, Bool.and_self, Int.toNat_natCast, hj0, hj1, hj2, List.drop_zero, ZaB, Zci, true_and, wi, hz]
    unfold badP okw at h1 h2
    unfold wnm
    revert h1 h2
    generalize lab ((l.getD i []).getD 0 0) = p1
    generalize ix4 ((l.getD i []).getD 1 0) = p2
    generalize val8 ((l.getD i []).getD 2 0) = p3
    intro h1 h2
    cases p1
    · exact h1 rfl
    cases p2
    · exact h1 rfl
    cases p3
    · exact h1 rfl
    by_cases h0 : 0 < i
    · obtain ⟨m, rfl⟩ : ∃ m, i = m + 1 := ⟨i - 1, by omega⟩
      have hlm : m < l.length := by omega
      have hk0 : isJ [IntKind.i64] (((mZ l).getD m [])) = true := ZcZ (j := 0) hw hlm (by omega)
      have hk1 : isJ [IntKind.i64] (((mZ l).getD m []).drop 1) = true := ZcZ (j := 1) hw hlm (by omega)
      have wp := Zjd (m := m) (by omega)
      simp only [h0, decide_true, cond_true, wp, Int.ofNat_lt, hlm, Int.natCast_nonneg, Bool.and_self, Int.toNat_natCast, hk0, hk1, ZaB, Zci, Nat.add_sub_cancel, Bool.not_true, Bool.true_and, Bool.false_or, cond_false] at h1 h2 ⊢
      cases hd : decide (plc ((l.getD (m + 1) []).getD 0 0) ((l.getD (m + 1) []).getD 1 0) ≤ plc ((l.getD m []).getD 0 0) ((l.getD m []).getD 1 0)) with
      | true => rw [hd] at h1; exact h1 rfl
      | false => rw [hd] at h2; exact h2 rfl
    · simp only [h0, decide_false, Bool.false_and, Bool.or_false, cond_true, Bool.not_true, cond_false] at h1 h2 ⊢
      exact h2 trivial
  · rw [rWP]
    simp only [Zaf, Int.ofNat_lt, Nat.lt_irrefl, decide_false, cond_false, true_and]
    exact h1
theorem eWP (l : List (List Int)) (sp : List (List D)) (K : DV → Prop) : (askL Tryz.prog [] [(2, fWP l sp)] Tryz.f123 [dS 3 (mZ l) sp] K) = (stWP (mZ l) sp false (0) = stWP (mZ l) sp false (0) ∧ (∀ (i : Nat), firstAt (badP l) (List.length l) i → K (DV.c (D.v (Value.bool false)))) ∧ (noneTo (badP l) (List.length l) → K (DV.c (D.v (Value.bool (decide (@Nat.cast Int _ (List.length (mZ l)) ≤ 16))))))) := by kernel_rfl
theorem oWPy : Zad Tryz.prog 123 sWMy := o_of Tryz.func123 (by kernel_rfl) rfl fun ds Q h => by
  unfold sWMy at h; split at h
  · rename_i R sp
    obtain ⟨h1, h2⟩ := Zae h
    obtain ⟨e1, w1, n1⟩ := Zag h1
    rw [e1]
    rw [← Zau R] at n1
    generalize toZ R = l at *
    refine ⟨_, ZaK (l := []) (m := [(2, fWP l sp)]) .nil mixed (ZbK rfl (by kernel_rfl) (kWP w1 n1)) Tryz.func123 rfl rfl rfl ?_, rfl, rfl, h2⟩
    rw [eWP]
    refine ⟨rfl, fun i hi => ?_, fun hn => ?_⟩
    · unfold ZbQ; rw [← Zsw, hi.b]; simp
    · unfold ZbQ; rw [← Zsw, hn.b]
      by_cases h : l.length ≤ 16 <;> simp [Zaf, h] <;> omega
  · exact h.elim
end

section
open Go Go.Proofs
def hIns : Hooks := { hkl [] [] with over := fun n => Nat.beq n 181 }
theorem Zn5 : Zal Tryz.prog hIns := ⟨fun _ _ => rfl, fun _ _ => rfl, ⟨fun _ => rfl, fun _ => rfl, fun _ => rfl⟩, fun f ds Q hq => hq.elim, Zd5 rfl⟩
theorem Zrw : Zg2 Tryz.prog 181 := by
  refine ⟨57, 4, 71, 3, Tryz.underlying57, fun w => ZaS rfl w, fun args w => ?_⟩
  exact run_callFunc_extern Tryz.func181 (by kernel_rfl) (by kernel_rfl) (by kernel_rfl) (e := Extern.SlicesOverlaps.overlaps #[57, 57] #[4]) (by kernel_rfl) args w
theorem ZuH (R : List (List D)) (i : Int) (a b c : Int) (cap : Nat) (K : DV → Prop) : (evp Tryz.prog hIns 200 (Zao Tryz.f140) (finX Tryz.prog Tryz.f140 K) ((Zbm Tryz.f140.ntmps [oS 3 R [], I i, oS 3 [[vI a, vI b, vI c]] []]).setT 0 (.rx 1000000 1 3 0 R.length cap))) = (bif decide (0 ≤ i) && (decide (i ≤ @Nat.cast Int _ (List.length R)) && decide (@Nat.cast Int _ (List.length R) ≤ @Nat.cast Int _ cap)) then bif Nat.beq (Int.toNat i) (OfNat.ofNat (0)) || decide (Int.toNat i + 1 ≤ cap) then ∀ (p q r : Nat), addN (0) (Int.toNat i) = p → Int.toNat (@Nat.cast Int _ (List.length R)) - Int.toNat i = q → cap - Int.toNat i = r → bif i == @Nat.cast Int _ (List.length R) then bif decide (List.length R ≤ List.length (R ++ [])) && (decide ((List.length R + 1) * 24 ≤ 140737488355328) && decide (List.length R + 1 ≤ 9223372036854775807)) then bif decide (List.length R + 1 ≤ List.length (List.take (List.length R) (R ++ []) ++ cut [[D.v (Value.int IntKind.i64 a), D.v (Value.int IntKind.i64 b), D.v (Value.int IntKind.i64 c)]] (0) (1))) && List.all (List.take (List.length R) (R ++ []) ++ cut [[D.v (Value.int IntKind.i64 a), D.v (Value.int IntKind.i64 b), D.v (Value.int IntKind.i64 c)]] (0) (1)) fun r => List.all r D.keeps then K (DV.c (D.s (1) (3) (List.take (List.length R + 1) (List.take (List.length R) (R ++ []) ++ cut [[D.v (Value.int IntKind.i64 a), D.v (Value.int IntKind.i64 b), D.v (Value.int IntKind.i64 c)]] (0) (1))) (List.take (List.length R + 1 - (List.length R + 1)) (List.drop (List.length R + 1) (List.take (List.length R) (R ++ []) ++ cut [[D.v (Value.int IntKind.i64 a), D.v (Value.int IntKind.i64 b), D.v (Value.int IntKind.i64 c)]] (0) (1)))))) else False else False else bif decide (IntKind.wrap IntKind.i64 (@Nat.cast Int _ (List.length R) + @Nat.cast Int _ (1)) > @Nat.cast Int _ cap) then bif true && (decide (0 ≤ i) && decide (i ≤ @Nat.cast Int _ cap)) then ∀ (p q r : Nat), 0 = p → Int.toNat i - 0 = q → cap - 0 = r → bif decide (p + q ≤ List.length (R ++ [])) then bif allV (cut (R ++ []) p q) then bif decide (1 ≤ IntKind.wrap IntKind.i64 (IntKind.wrap IntKind.i64 (@Nat.cast Int _ (List.length R) + @Nat.cast Int _ (1)) - i)) && (decide (r < q + Int.toNat (IntKind.wrap IntKind.i64 (IntKind.wrap IntKind.i64 (@Nat.cast Int _ (List.length R) + @Nat.cast Int _ (1)) - i))) && (decide ((q + Int.toNat (IntKind.wrap IntKind.i64 (IntKind.wrap IntKind.i64 (@Nat.cast Int _ (List.length R) + @Nat.cast Int _ (1)) - i))) * 24 ≤ 140737488355328) && decide (q + Int.toNat (IntKind.wrap IntKind.i64 (IntKind.wrap IntKind.i64 (@Nat.cast Int _ (List.length R) + @Nat.cast Int _ (1)) - i)) ≤ 9223372036854775807))) then ∀ (n : Nat) (rs : List (List D)), q + Int.toNat (IntKind.wrap IntKind.i64 (IntKind.wrap IntKind.i64 (@Nat.cast Int _ (List.length R) + @Nat.cast Int _ (1)) - i)) = n → cut (R ++ []) p q ++ List.replicate (Int.toNat (IntKind.wrap IntKind.i64 (IntKind.wrap IntKind.i64 (@Nat.cast Int _ (List.length R) + @Nat.cast Int _ (List.length [[vI a, vI b, vI c]])) - i))) (List.map D.v ((fun x => (Value.cells x).toList) (Value.agg #[Value.int IntKind.i64 (0), Value.int IntKind.i64 (0), Value.int IntKind.i64 (0)]))) = rs → bif decide (0 ≤ i) && (decide (i ≤ @Nat.cast Int _ n) && decide (@Nat.cast Int _ n ≤ @Nat.cast Int _ n)) then bif Nat.beq (Int.toNat i) (OfNat.ofNat (0)) || decide (Int.toNat i + 1 ≤ n) then ∀ (c_1 : Nat), min (1) (Int.toNat (@Nat.cast Int _ n) - Int.toNat i) = c_1 → bif decide (0 + c_1 ≤ 1) then bif allV (cut [[D.v (Value.int IntKind.i64 a), D.v (Value.int IntKind.i64 b), D.v (Value.int IntKind.i64 c)]] (0) c_1) then bif decide (addN (0) (Int.toNat i) ≤ List.length rs) && (allV rs && decide (c_1 ≤ List.length (cut [[D.v (Value.int IntKind.i64 a), D.v (Value.int IntKind.i64 b), D.v (Value.int IntKind.i64 c)]] (0) c_1))) then ∀ (rs_1 : List (List D)), List.take (addN (0) (Int.toNat i)) rs ++ (List.take c_1 (cut [[D.v (Value.int IntKind.i64 a), D.v (Value.int IntKind.i64 b), D.v (Value.int IntKind.i64 c)]] (0) c_1) ++ List.drop (addN (0) (Int.toNat i) + List.length (List.take c_1 (cut [[D.v (Value.int IntKind.i64 a), D.v (Value.int IntKind.i64 b), D.v (Value.int IntKind.i64 c)]] (0) c_1))) rs) = rs_1 → bif decide (0 ≤ IntKind.wrap IntKind.i64 (i + @Nat.cast Int _ (1))) && (decide (IntKind.wrap IntKind.i64 (i + @Nat.cast Int _ (1)) ≤ @Nat.cast Int _ n) && decide (@Nat.cast Int _ n ≤ @Nat.cast Int _ n)) then bif Nat.beq (Int.toNat (IntKind.wrap IntKind.i64 (i + @Nat.cast Int _ (1)))) (OfNat.ofNat (0)) || decide (Int.toNat (IntKind.wrap IntKind.i64 (i + @Nat.cast Int _ (1))) + 1 ≤ n) then bif decide (0 ≤ i) && (decide (i ≤ @Nat.cast Int _ (List.length R)) && decide (@Nat.cast Int _ (List.length R) ≤ @Nat.cast Int _ cap)) then bif Nat.beq (Int.toNat i) (OfNat.ofNat (0)) || decide (Int.toNat i + 1 ≤ cap) then ∀ (p q r : Nat), addN (0) (Int.toNat i) = p → Int.toNat (@Nat.cast Int _ (List.length R)) - Int.toNat i = q → cap - Int.toNat i = r → ∀ (c_2 : Nat), min q (Int.toNat (@Nat.cast Int _ n) - Int.toNat (IntKind.wrap IntKind.i64 (i + @Nat.cast Int _ (1)))) = c_2 → bif decide (p + c_2 ≤ List.length (R ++ [])) then bif allV (cut (R ++ []) p c_2) then bif decide (addN (0) (Int.toNat (IntKind.wrap IntKind.i64 (i + @Nat.cast Int _ (1)))) ≤ List.length rs_1) && (allV rs_1 && decide (c_2 ≤ List.length (cut (R ++ []) p c_2))) then ∀ (rs : List (List D)), List.take (addN (0) (Int.toNat (IntKind.wrap IntKind.i64 (i + @Nat.cast Int _ (1))))) rs_1 ++ (List.take c_2 (cut (R ++ []) p c_2) ++ List.drop (addN (0) (Int.toNat (IntKind.wrap IntKind.i64 (i + @Nat.cast Int _ (1)))) + List.length (List.take c_2 (cut (R ++ []) p c_2))) rs_1) = rs → bif decide (n ≤ List.length rs) && List.all rs fun r => List.all r D.keeps then K (DV.c (D.s (1) (3) (List.take n rs) (List.take (n - n) (List.drop n rs)))) else False else False else False else False else False else False else bif decide (0 ≤ i) && (decide (i ≤ @Nat.cast Int _ (List.length R)) && decide (@Nat.cast Int _ (List.length R) ≤ @Nat.cast Int _ cap)) then bif Nat.beq (Int.toNat i) (OfNat.ofNat (0)) || decide (Int.toNat i + 1 ≤ cap) then ∀ (p q r : Nat), addN (0) (Int.toNat i) = p → Int.toNat (@Nat.cast Int _ (List.length R)) - Int.toNat i = q → cap - Int.toNat i = r → False else False else False else False else False else False else False else False else False else False else False else False else False else bif true && (decide (0 ≤ IntKind.wrap IntKind.i64 (@Nat.cast Int _ (List.length R) + @Nat.cast Int _ (1))) && decide (IntKind.wrap IntKind.i64 (@Nat.cast Int _ (List.length R) + @Nat.cast Int _ (1)) ≤ @Nat.cast Int _ cap)) then ∀ (p q r : Nat), 0 = p → Int.toNat (IntKind.wrap IntKind.i64 (@Nat.cast Int _ (List.length R) + @Nat.cast Int _ (1))) - 0 = q → cap - 0 = r → bif decide (0 ≤ IntKind.wrap IntKind.i64 (i + @Nat.cast Int _ (1))) && (decide (IntKind.wrap IntKind.i64 (i + @Nat.cast Int _ (1)) ≤ @Nat.cast Int _ q) && decide (@Nat.cast Int _ q ≤ @Nat.cast Int _ r)) then bif Nat.beq (Int.toNat (IntKind.wrap IntKind.i64 (i + @Nat.cast Int _ (1)))) (OfNat.ofNat (0)) || decide (Int.toNat (IntKind.wrap IntKind.i64 (i + @Nat.cast Int _ (1))) + 1 ≤ r) then ∀ (p_1 q_1 r_1 : Nat), addN p (Int.toNat (IntKind.wrap IntKind.i64 (i + @Nat.cast Int _ (1)))) = p_1 → Int.toNat (@Nat.cast Int _ q) - Int.toNat (IntKind.wrap IntKind.i64 (i + @Nat.cast Int _ (1))) = q_1 → r - Int.toNat (IntKind.wrap IntKind.i64 (i + @Nat.cast Int _ (1))) = r_1 → bif decide (1 ≤ 1) && decide (1 ≤ q_1) then Zg2 Tryz.prog (181) ∧ bif decide (0 ≤ IntKind.wrap IntKind.i64 (i + @Nat.cast Int _ (1))) && (decide (IntKind.wrap IntKind.i64 (i + @Nat.cast Int _ (1)) ≤ @Nat.cast Int _ q) && decide (@Nat.cast Int _ q ≤ @Nat.cast Int _ r)) then bif Nat.beq (Int.toNat (IntKind.wrap IntKind.i64 (i + @Nat.cast Int _ (1)))) (OfNat.ofNat (0)) || decide (Int.toNat (IntKind.wrap IntKind.i64 (i + @Nat.cast Int _ (1))) + 1 ≤ r) then ∀ (p_2 q_2 r_2 : Nat), addN p (Int.toNat (IntKind.wrap IntKind.i64 (i + @Nat.cast Int _ (1)))) = p_2 → Int.toNat (@Nat.cast Int _ q) - Int.toNat (IntKind.wrap IntKind.i64 (i + @Nat.cast Int _ (1))) = q_2 → r - Int.toNat (IntKind.wrap IntKind.i64 (i + @Nat.cast Int _ (1))) = r_2 → bif decide (0 ≤ i) && (decide (i ≤ @Nat.cast Int _ q) && decide (@Nat.cast Int _ q ≤ @Nat.cast Int _ r)) then bif Nat.beq (Int.toNat i) (OfNat.ofNat (0)) || decide (Int.toNat i + 1 ≤ r) then ∀ (p_3 q_3 r_3 : Nat), addN p (Int.toNat i) = p_3 → Int.toNat (@Nat.cast Int _ q) - Int.toNat i = q_3 → r - Int.toNat i = r_3 → ∀ (c_1 : Nat), min q_3 q_2 = c_1 → bif decide (p_3 + c_1 ≤ List.length (R ++ [])) then bif allV (cut (R ++ []) p_3 c_1) then bif decide (p_2 ≤ List.length (R ++ [])) && (allV (R ++ []) && decide (c_1 ≤ List.length (cut (R ++ []) p_3 c_1))) then ∀ (rs : List (List D)), List.take p_2 (R ++ []) ++ (List.take c_1 (cut (R ++ []) p_3 c_1) ++ List.drop (p_2 + List.length (List.take c_1 (cut (R ++ []) p_3 c_1))) (R ++ [])) = rs → bif decide (0 ≤ i) && (decide (i ≤ @Nat.cast Int _ q) && decide (@Nat.cast Int _ q ≤ @Nat.cast Int _ r)) then bif Nat.beq (Int.toNat i) (OfNat.ofNat (0)) || decide (Int.toNat i + 1 ≤ r) then ∀ (p_4 q_4 r_4 : Nat), addN p (Int.toNat i) = p_4 → Int.toNat (@Nat.cast Int _ q) - Int.toNat i = q_4 → r - Int.toNat i = r_4 → ∀ (c_2 : Nat), min (1) q_4 = c_2 → bif decide (0 + c_2 ≤ 1) then bif allV (cut [[D.v (Value.int IntKind.i64 a), D.v (Value.int IntKind.i64 b), D.v (Value.int IntKind.i64 c)]] (0) c_2) then bif decide (p_4 ≤ List.length rs) && (allV rs && decide (c_2 ≤ List.length (cut [[D.v (Value.int IntKind.i64 a), D.v (Value.int IntKind.i64 b), D.v (Value.int IntKind.i64 c)]] (0) c_2))) then ∀ (rs_1 : List (List D)), List.take p_4 rs ++ (List.take c_2 (cut [[D.v (Value.int IntKind.i64 a), D.v (Value.int IntKind.i64 b), D.v (Value.int IntKind.i64 c)]] (0) c_2) ++ List.drop (p_4 + List.length (List.take c_2 (cut [[D.v (Value.int IntKind.i64 a), D.v (Value.int IntKind.i64 b), D.v (Value.int IntKind.i64 c)]] (0) c_2))) rs) = rs_1 → bif true && (true && Nat.beq p (OfNat.ofNat (0))) then bif decide (q ≤ List.length rs_1) && List.all rs_1 fun r => List.all r D.keeps then K (DV.c (D.s (1) (3) (List.take q rs_1) (List.take (q - q) (List.drop q rs_1)))) else False else False else False else False else False else False else False else False else False else False else False else False else bif decide (0 ≤ i) && (decide (i ≤ @Nat.cast Int _ q) && decide (@Nat.cast Int _ q ≤ @Nat.cast Int _ r)) then bif Nat.beq (Int.toNat i) (OfNat.ofNat (0)) || decide (Int.toNat i + 1 ≤ r) then ∀ (p_2 q_2 r_2 : Nat), addN p (Int.toNat i) = p_2 → Int.toNat (@Nat.cast Int _ q) - Int.toNat i = q_2 → r - Int.toNat i = r_2 → False else False else False else False else False else False else False else False else bif i == @Nat.cast Int _ (List.length R) then bif decide (List.length R ≤ List.length (R ++ [])) && (decide ((List.length R + 1) * 24 ≤ 140737488355328) && decide (List.length R + 1 ≤ 9223372036854775807)) then bif decide (List.length R + 1 ≤ List.length (List.take (List.length R) (R ++ []) ++ cut [[D.v (Value.int IntKind.i64 a), D.v (Value.int IntKind.i64 b), D.v (Value.int IntKind.i64 c)]] (0) (1))) && List.all (List.take (List.length R) (R ++ []) ++ cut [[D.v (Value.int IntKind.i64 a), D.v (Value.int IntKind.i64 b), D.v (Value.int IntKind.i64 c)]] (0) (1)) fun r => List.all r D.keeps then K (DV.c (D.s (1) (3) (List.take (List.length R + 1) (List.take (List.length R) (R ++ []) ++ cut [[D.v (Value.int IntKind.i64 a), D.v (Value.int IntKind.i64 b), D.v (Value.int IntKind.i64 c)]] (0) (1))) (List.take (List.length R + 1 - (List.length R + 1)) (List.drop (List.length R + 1) (List.take (List.length R) (R ++ []) ++ cut [[D.v (Value.int IntKind.i64 a), D.v (Value.int IntKind.i64 b), D.v (Value.int IntKind.i64 c)]] (0) (1)))))) else False else False else bif decide (IntKind.wrap IntKind.i64 (@Nat.cast Int _ (List.length R) + @Nat.cast Int _ (1)) > @Nat.cast Int _ cap) then bif true && (decide (0 ≤ i) && decide (i ≤ @Nat.cast Int _ cap)) then ∀ (p q r : Nat), 0 = p → Int.toNat i - 0 = q → cap - 0 = r → bif decide (p + q ≤ List.length (R ++ [])) then bif allV (cut (R ++ []) p q) then bif decide (1 ≤ IntKind.wrap IntKind.i64 (IntKind.wrap IntKind.i64 (@Nat.cast Int _ (List.length R) + @Nat.cast Int _ (1)) - i)) && (decide (r < q + Int.toNat (IntKind.wrap IntKind.i64 (IntKind.wrap IntKind.i64 (@Nat.cast Int _ (List.length R) + @Nat.cast Int _ (1)) - i))) && (decide ((q + Int.toNat (IntKind.wrap IntKind.i64 (IntKind.wrap IntKind.i64 (@Nat.cast Int _ (List.length R) + @Nat.cast Int _ (1)) - i))) * 24 ≤ 140737488355328) && decide (q + Int.toNat (IntKind.wrap IntKind.i64 (IntKind.wrap IntKind.i64 (@Nat.cast Int _ (List.length R) + @Nat.cast Int _ (1)) - i)) ≤ 9223372036854775807))) then ∀ (n : Nat) (rs : List (List D)), q + Int.toNat (IntKind.wrap IntKind.i64 (IntKind.wrap IntKind.i64 (@Nat.cast Int _ (List.length R) + @Nat.cast Int _ (1)) - i)) = n → cut (R ++ []) p q ++ List.replicate (Int.toNat (IntKind.wrap IntKind.i64 (IntKind.wrap IntKind.i64 (@Nat.cast Int _ (List.length R) + @Nat.cast Int _ (List.length [[vI a, vI b, vI c]])) - i))) (List.map D.v ((fun x => (Value.cells x).toList) (Value.agg #[Value.int IntKind.i64 (0), Value.int IntKind.i64 (0), Value.int IntKind.i64 (0)]))) = rs → bif decide (0 ≤ i) && (decide (i ≤ @Nat.cast Int _ n) && decide (@Nat.cast Int _ n ≤ @Nat.cast Int _ n)) then bif Nat.beq (Int.toNat i) (OfNat.ofNat (0)) || decide (Int.toNat i + 1 ≤ n) then ∀ (c_1 : Nat), min (1) (Int.toNat (@Nat.cast Int _ n) - Int.toNat i) = c_1 → bif decide (0 + c_1 ≤ 1) then bif allV (cut [[D.v (Value.int IntKind.i64 a), D.v (Value.int IntKind.i64 b), D.v (Value.int IntKind.i64 c)]] (0) c_1) then bif decide (addN (0) (Int.toNat i) ≤ List.length rs) && (allV rs && decide (c_1 ≤ List.length (cut [[D.v (Value.int IntKind.i64 a), D.v (Value.int IntKind.i64 b), D.v (Value.int IntKind.i64 c)]] (0) c_1))) then ∀ (rs_1 : List (List D)), List.take (addN (0) (Int.toNat i)) rs ++ (List.take c_1 (cut [[D.v (Value.int IntKind.i64 a), D.v (Value.int IntKind.i64 b), D.v (Value.int IntKind.i64 c)]] (0) c_1) ++ List.drop (addN (0) (Int.toNat i) + List.length (List.take c_1 (cut [[D.v (Value.int IntKind.i64 a), D.v (Value.int IntKind.i64 b), D.v (Value.int IntKind.i64 c)]] (0) c_1))) rs) = rs_1 → bif decide (0 ≤ IntKind.wrap IntKind.i64 (i + @Nat.cast Int _ (1))) && (decide (IntKind.wrap IntKind.i64 (i + @Nat.cast Int _ (1)) ≤ @Nat.cast Int _ n) && decide (@Nat.cast Int _ n ≤ @Nat.cast Int _ n)) then bif Nat.beq (Int.toNat (IntKind.wrap IntKind.i64 (i + @Nat.cast Int _ (1)))) (OfNat.ofNat (0)) || decide (Int.toNat (IntKind.wrap IntKind.i64 (i + @Nat.cast Int _ (1))) + 1 ≤ n) then bif decide (0 ≤ i) && (decide (i ≤ @Nat.cast Int _ (List.length R)) && decide (@Nat.cast Int _ (List.length R) ≤ @Nat.cast Int _ cap)) then bif Nat.beq (Int.toNat i) (OfNat.ofNat (0)) || decide (Int.toNat i + 1 ≤ cap) then ∀ (p q r : Nat), addN (0) (Int.toNat i) = p → Int.toNat (@Nat.cast Int _ (List.length R)) - Int.toNat i = q → cap - Int.toNat i = r → ∀ (c_2 : Nat), min q (Int.toNat (@Nat.cast Int _ n) - Int.toNat (IntKind.wrap IntKind.i64 (i + @Nat.cast Int _ (1)))) = c_2 → bif decide (p + c_2 ≤ List.length (R ++ [])) then bif allV (cut (R ++ []) p c_2) then bif decide (addN (0) (Int.toNat (IntKind.wrap IntKind.i64 (i + @Nat.cast Int _ (1)))) ≤ List.length rs_1) && (allV rs_1 && decide (c_2 ≤ List.length (cut (R ++ []) p c_2))) then ∀ (rs : List (List D)), List.take (addN (0) (Int.toNat (IntKind.wrap IntKind.i64 (i + @Nat.cast Int _ (1))))) rs_1 ++ (List.take c_2 (cut (R ++ []) p c_2) ++ List.drop (addN (0) (Int.toNat (IntKind.wrap IntKind.i64 (i + @Nat.cast Int _ (1)))) + List.length (List.take c_2 (cut (R ++ []) p c_2))) rs_1) = rs → bif decide (n ≤ List.length rs) && List.all rs fun r => List.all r D.keeps then K (DV.c (D.s (1) (3) (List.take n rs) (List.take (n - n) (List.drop n rs)))) else False else False else False else False else False else False else bif decide (0 ≤ i) && (decide (i ≤ @Nat.cast Int _ (List.length R)) && decide (@Nat.cast Int _ (List.length R) ≤ @Nat.cast Int _ cap)) then bif Nat.beq (Int.toNat i) (OfNat.ofNat (0)) || decide (Int.toNat i + 1 ≤ cap) then ∀ (p q r : Nat), addN (0) (Int.toNat i) = p → Int.toNat (@Nat.cast Int _ (List.length R)) - Int.toNat i = q → cap - Int.toNat i = r → False else False else False else False else False else False else False else False else False else False else False else False else False else bif true && (decide (0 ≤ IntKind.wrap IntKind.i64 (@Nat.cast Int _ (List.length R) + @Nat.cast Int _ (1))) && decide (IntKind.wrap IntKind.i64 (@Nat.cast Int _ (List.length R) + @Nat.cast Int _ (1)) ≤ @Nat.cast Int _ cap)) then ∀ (p q r : Nat), 0 = p → Int.toNat (IntKind.wrap IntKind.i64 (@Nat.cast Int _ (List.length R) + @Nat.cast Int _ (1))) - 0 = q → cap - 0 = r → bif decide (0 ≤ IntKind.wrap IntKind.i64 (i + @Nat.cast Int _ (1))) && (decide (IntKind.wrap IntKind.i64 (i + @Nat.cast Int _ (1)) ≤ @Nat.cast Int _ q) && decide (@Nat.cast Int _ q ≤ @Nat.cast Int _ r)) then bif Nat.beq (Int.toNat (IntKind.wrap IntKind.i64 (i + @Nat.cast Int _ (1)))) (OfNat.ofNat (0)) || decide (Int.toNat (IntKind.wrap IntKind.i64 (i + @Nat.cast Int _ (1))) + 1 ≤ r) then ∀ (p_1 q_1 r_1 : Nat), addN p (Int.toNat (IntKind.wrap IntKind.i64 (i + @Nat.cast Int _ (1)))) = p_1 → Int.toNat (@Nat.cast Int _ q) - Int.toNat (IntKind.wrap IntKind.i64 (i + @Nat.cast Int _ (1))) = q_1 → r - Int.toNat (IntKind.wrap IntKind.i64 (i + @Nat.cast Int _ (1))) = r_1 → bif decide (1 ≤ 1) && decide (1 ≤ q_1) then Zg2 Tryz.prog (181) ∧ bif decide (0 ≤ IntKind.wrap IntKind.i64 (i + @Nat.cast Int _ (1))) && (decide (IntKind.wrap IntKind.i64 (i + @Nat.cast Int _ (1)) ≤ @Nat.cast Int _ q) && decide (@Nat.cast Int _ q ≤ @Nat.cast Int _ r)) then bif Nat.beq (Int.toNat (IntKind.wrap IntKind.i64 (i + @Nat.cast Int _ (1)))) (OfNat.ofNat (0)) || decide (Int.toNat (IntKind.wrap IntKind.i64 (i + @Nat.cast Int _ (1))) + 1 ≤ r) then ∀ (p_2 q_2 r_2 : Nat), addN p (Int.toNat (IntKind.wrap IntKind.i64 (i + @Nat.cast Int _ (1)))) = p_2 → Int.toNat (@Nat.cast Int _ q) - Int.toNat (IntKind.wrap IntKind.i64 (i + @Nat.cast Int _ (1))) = q_2 → r - Int.toNat (IntKind.wrap IntKind.i64 (i + @Nat.cast Int _ (1))) = r_2 → bif decide (0 ≤ i) && (decide (i ≤ @Nat.cast Int _ q) && decide (@Nat.cast Int _ q ≤ @Nat.cast Int _ r)) then bif Nat.beq (Int.toNat i) (OfNat.ofNat (0)) || decide (Int.toNat i + 1 ≤ r) then ∀ (p_3 q_3 r_3 : Nat), addN p (Int.toNat i) = p_3 → Int.toNat (@Nat.cast Int _ q) - Int.toNat i = q_3 → r - Int.toNat i = r_3 → ∀ (c_1 : Nat), min q_3 q_2 = c_1 → bif decide (p_3 + c_1 ≤ List.length (R ++ [])) then bif allV (cut (R ++ []) p_3 c_1) then bif decide (p_2 ≤ List.length (R ++ [])) && (allV (R ++ []) && decide (c_1 ≤ List.length (cut (R ++ []) p_3 c_1))) then ∀ (rs : List (List D)), List.take p_2 (R ++ []) ++ (List.take c_1 (cut (R ++ []) p_3 c_1) ++ List.drop (p_2 + List.length (List.take c_1 (cut (R ++ []) p_3 c_1))) (R ++ [])) = rs → bif decide (0 ≤ i) && (decide (i ≤ @Nat.cast Int _ q) && decide (@Nat.cast Int _ q ≤ @Nat.cast Int _ r)) then bif Nat.beq (Int.toNat i) (OfNat.ofNat (0)) || decide (Int.toNat i + 1 ≤ r) then ∀ (p_4 q_4 r_4 : Nat), addN p (Int.toNat i) = p_4 → Int.toNat (@Nat.cast Int _ q) - Int.toNat i = q_4 → r - Int.toNat i = r_4 → ∀ (c_2 : Nat), min (1) q_4 = c_2 → bif decide (0 + c_2 ≤ 1) then bif allV (cut [[D.v (Value.int IntKind.i64 a), D.v (Value.int IntKind.i64 b), D.v (Value.int IntKind.i64 c)]] (0) c_2) then bif decide (p_4 ≤ List.length rs) && (allV rs && decide (c_2 ≤ List.length (cut [[D.v (Value.int IntKind.i64 a), D.v (Value.int IntKind.i64 b), D.v (Value.int IntKind.i64 c)]] (0) c_2))) then ∀ (rs_1 : List (List D)), List.take p_4 rs ++ (List.take c_2 (cut [[D.v (Value.int IntKind.i64 a), D.v (Value.int IntKind.i64 b), D.v (Value.int IntKind.i64 c)]] (0) c_2) ++ List.drop (p_4 + List.length (List.take c_2 (cut [[D.v (Value.int IntKind.i64 a), D.v (Value.int IntKind.i64 b), D.v (Value.int IntKind.i64 c)]] (0) c_2))) rs) = rs_1 → bif true && (true && Nat.beq p (OfNat.ofNat (0))) then bif decide (q ≤ List.length rs_1) && List.all rs_1 fun r => List.all r D.keeps then K (DV.c (D.s (1) (3) (List.take q rs_1) (List.take (q - q) (List.drop q rs_1)))) else False else False else False else False else False else False else False else False else False else False else False else False else bif decide (0 ≤ i) && (decide (i ≤ @Nat.cast Int _ q) && decide (@Nat.cast Int _ q ≤ @Nat.cast Int _ r)) then bif Nat.beq (Int.toNat i) (OfNat.ofNat (0)) || decide (Int.toNat i + 1 ≤ r) then ∀ (p_2 q_2 r_2 : Nat), addN p (Int.toNat i) = p_2 → Int.toNat (@Nat.cast Int _ q) - Int.toNat i = q_2 → r - Int.toNat i = r_2 → False else False else False else False else False else False else False else False else False) := by kernel_rfl
theorem ZuS (a b c : Int) (K : DV → Prop) : (evp Tryz.prog hIns 200 (Zao Tryz.f140) (finX Tryz.prog Tryz.f140 K) (Zbm Tryz.f140.ntmps [oS 3 [] [], I 0, oS 3 [[vI a, vI b, vI c]] []])) = (K (DV.c (D.s (1) (3) [[D.v (Value.int IntKind.i64 a), D.v (Value.int IntKind.i64 b), D.v (Value.int IntKind.i64 c)]] []))) := by kernel_rfl
theorem cnd {b : Bool} {p q : Prop} (h : b = true) (hp : p) : cond b p q := by rw [h]; exact hp
theorem cndF {b : Bool} {p q : Prop} (h : b = false) (hq : q) : cond b p q := by rw [h]; exact hq
def ins {α : Type} (l : List α) (j : Nat) (x : α) : List α := l.take j ++ x :: l.drop j
theorem Zre {α : Type} {l : List α} {j : Nat} {x : α} (h : j ≤ l.length) : (ins l j x).length = l.length + 1 := by simp [ins]; omega
theorem Zuh {l : List (List D)} {j : Nat} {x : List D} (h : j ≤ l.length) (z : List D) : List.take (j + 1) (List.take j (List.take j l ++ List.replicate (l.length + 1 - j) z) ++ ([x] ++ List.drop (j + 1) (List.take j l ++ List.replicate (l.length + 1 - j) z))) ++ (l.drop j ++ List.drop (l.length + 1) (List.take j (List.take j l ++ List.replicate (l.length + 1 - j) z) ++ ([x] ++ List.drop (j + 1) (List.take j l ++ List.replicate (l.length + 1 - j) z)))) = ins l j x := by
  have h1 : (List.take j l).length = j := by simp; omega
  have h2 : List.take j (List.take j l ++ List.replicate (l.length + 1 - j) z) = List.take j l := by rw [List.take_append_of_le_length (by omega), List.take_take, Nat.min_self]
  rw [h2]
  have h3 : List.take (j + 1) (List.take j l ++ ([x] ++ List.drop (j + 1) (List.take j l ++ List.replicate (l.length + 1 - j) z))) = List.take j l ++ [x] := by
    rw [← List.append_assoc, List.take_append_of_le_length (by simp; omega)]
    rw [List.take_of_length_le (by simp; omega)]
  have h4 : List.drop (l.length + 1) (List.take j l ++ ([x] ++ List.drop (j + 1) (List.take j l ++ List.replicate (l.length + 1 - j) z))) = [] := by
    apply List.drop_eq_nil_of_le
    simp; omega
  rw [h3, h4]
  simp [ins]
theorem ZbE {l m : List (List D)} (h : allV l = true) (h2 : allV m = true) : allV (l ++ m) = true := by
  unfold allV at *; rw [List.all_append, h, h2]; rfl
theorem Zcv {l : List (List D)} (h : allV l = true) (n : Nat) : allV (l.take n) = true := List.all_eq_true.2 fun r hr => List.all_eq_true.1 h r (List.mem_of_mem_take hr)
theorem Zcq {l : List (List D)} (h : allV l = true) (n : Nat) : allV (l.drop n) = true := List.all_eq_true.2 fun r hr => List.all_eq_true.1 h r (List.mem_of_mem_drop hr)
theorem Zlk {l : List (List D)} {r : List D} (h : allV l = true) (hr : r.all D.isV = true) (j : Nat) : allV (ins l j r) = true := ZbE (Zcv h j) (by unfold allV; rw [List.all_cons, hr]; exact Zcq h j)
theorem ZuW {l : List (List D)} {j : Nat} {x : List D} (h : j < l.length) : List.take j (List.take (j + 1) l ++ (List.drop j l ++ List.drop (j + 1 + (l.length - j)) l)) ++ ([x] ++ List.drop (j + 1) (List.take (j + 1) l ++ (List.drop j l ++ List.drop (j + 1 + (l.length - j)) l))) = ins l j x := by
  have h4 : List.drop (j + 1 + (l.length - j)) l = [] := List.drop_eq_nil_of_le (by omega)
  rw [h4, List.append_nil]
  have h1 : (List.take (j + 1) l).length = j + 1 := by rw [List.length_take, Nat.min_eq_left (by omega)]
  rw [List.take_append_of_le_length (by omega), List.take_take, Nat.min_eq_left (by omega), List.drop_append_of_le_length (by omega), List.drop_eq_nil_of_le (by omega), List.nil_append]
  rfl
theorem cut0 {l : List (List D)} {n : Nat} : cut l 0 n = l.take n := by simp [cut]
theorem cutd {l : List (List D)} {p n : Nat} (h : p + n = l.length) : cut l p n = l.drop p := by
  unfold cut; rw [List.take_of_length_le (by simp; omega)]
theorem Ztk {R : List (List D)} {j : Nat} {a b c : Int} {cap : Nat} (hR : allV R = true) (hj : j ≤ R.length) (hn : R.length ≤ 5864062014634) (hc : R.length ≤ cap) (K : DV → Prop)
    (hK : K (.c (.s 1 3 (ins R j [vI a, vI b, vI c]) []))) :
    evp Tryz.prog hIns 200 (Zao Tryz.f140) (finX Tryz.prog Tryz.f140 K) ((Zbm Tryz.f140.ntmps [oS 3 R [], I j, oS 3 [[vI a, vI b, vI c]] []]).setT 0 (.rx 1000000 1 3 0 R.length cap)) := by
  rw [ZuH]
  have w1 : IntKind.wrap .i64 ((R.length : Int) + ((1 : Nat) : Int)) = ((R.length + 1 : Nat) : Int) := by rw [IntKind.wrap_i64]; omega
  have w2 : IntKind.wrap .i64 (((R.length + 1 : Nat) : Int) - (j : Int)) = ((R.length + 1 - j : Nat) : Int) := by rw [IntKind.wrap_i64]; omega
  have w3 : IntKind.wrap .i64 ((j : Int) + ((1 : Nat) : Int)) = ((j + 1 : Nat) : Int) := by rw [IntKind.wrap_i64]; omega
  have hL1 : ([[vI a, vI b, vI c]] : List (List D)).length = 1 := rfl
  have hx : ([[vI a, vI b, vI c]] : List (List D)).all (fun r => r.all D.isV) = true := rfl
  have a0 : ∀ n, addN 0 n = n := fun n => by rw [ZcL]; omega
  simp only [hL1, w1, w2, w3, Int.toNat_natCast, List.append_nil, Nat.sub_zero, a0]
  have hkeep : ∀ l : List (List D), allV l = true → (l.all fun r => r.all D.keeps) = true := fun l hl => ZaD hl
  have hi : allV (ins R j [vI a, vI b, vI c]) = true := Zlk hR rfl j
  have hil := Zre (x := [vI a, vI b, vI c]) hj
  have hu : Zg2 Tryz.prog 181 := Zrw
  generalize hW : ([D.v (Value.int IntKind.i64 a), D.v (Value.int IntKind.i64 b), D.v (Value.int IntKind.i64 c)] : List D) = W
  have hWv : allV [W] = true := by rw [← hW]; rfl
  have hWi : ins R j [vI a, vI b, vI c] = ins R j W := by rw [← hW]
  rw [hWi] at hK hi hil
  have hW1 : ∀ n, cut [W] 0 n = [W].take n := fun n => cut0
  have ht1 : [W].take 1 = [W] := rfl
  refine cnd (by simp only [Bool.and_eq_true, decide_eq_true_eq]; omega) ?_
  have p1 : j = R.length → ∀ X Y : Prop, bif decide (R.length ≤ R.length) && (decide ((R.length + 1) * 24 ≤ 140737488355328) && decide (R.length + 1 ≤ 9223372036854775807)) then bif decide (R.length + 1 ≤ List.length (List.take R.length R ++ cut [W] 0 1)) && List.all (List.take R.length R ++ cut [W] 0 1) (fun r => List.all r D.keeps) then K (DV.c (D.s 1 3 (List.take (R.length + 1) (List.take R.length R ++ cut [W] 0 1)) (List.take (R.length + 1 - (R.length + 1)) (List.drop (R.length + 1) (List.take R.length R ++ cut [W] 0 1))))) else X else Y := fun hjn X Y => by
    subst hjn
    have e1 : List.take R.length R ++ cut [W] 0 1 = ins R R.length W := by simp [ins, hW1, ht1]
    have e2 : List.take (R.length + 1) (ins R R.length W) = ins R R.length W := List.take_of_length_le (by omega)
    rw [e1, e2]
    refine cnd (by simp only [Bool.and_eq_true, decide_eq_true_eq]; omega) (cnd (by rw [hil, hkeep _ hi]; simp) ?_)
    simp only [Nat.sub_self, List.take_zero]
    exact hK
  cases hq : (Nat.beq j (OfNat.ofNat 0) || decide (j + 1 ≤ cap)) with
  | false =>
    simp only [cond_false]
    have hjn : j = R.length := by simp at hq; omega
    refine cnd (by simp [hjn]) (p1 hjn _ _)
  | true =>
    simp only [cond_true]
    intro _ _ _ _ _ _
    by_cases hjn : j = R.length
    · exact cnd (by simp [hjn]) (p1 hjn _ _)
    · have hjl : j < R.length := by omega
      have hq2 : (Nat.beq j (OfNat.ofNat 0) || decide (j + 1 ≤ cap)) = true := by simp; omega
      clear hq
      have hji : ((j : Int) == (R.length : Int)) = false := by simp; omega
      rw [hji]
      simp only [cond_false]
      by_cases hg : cap < R.length + 1
      · refine cnd (by simp; omega) (cnd (by simp; omega) ?_)
        intro _ _ _ h1 h2 h3
        subst h1 h2 h3
        refine cnd (by simp; omega) (cnd (by rw [cut0]; exact Zcv hR _) (cnd (by simp only [Bool.and_eq_true, decide_eq_true_eq]; omega) ?_))
        intro n rs h1 h2
        have hn' : n = R.length + 1 := by omega
        subst hn'
        rw [cut0] at h2
        generalize hZ : (List.map D.v ((fun x => (Value.cells x).toList) (Value.agg #[Value.int IntKind.i64 0, Value.int IntKind.i64 0, Value.int IntKind.i64 0]))) = Z at h2
        have hZv : Z.all D.isV = true := by rw [← hZ]; rfl
        have hrv : allV rs = true := by
          rw [← h2]
          refine ZbE (Zcv hR _) (List.all_eq_true.2 fun r hr => ?_)
          rw [(List.mem_replicate.1 hr).2]; exact hZv
        have hrl : rs.length = R.length + 1 := by rw [← h2, List.length_append, List.length_replicate, List.length_take]; omega
        refine cnd (by simp only [Bool.and_eq_true, decide_eq_true_eq]; omega) (cnd (by simp; omega) ?_)
        intro c1 hc1
        have hc1 : c1 = 1 := by rw [← hc1]; exact Nat.min_eq_left (by omega)
        subst hc1
        simp only [hW1, ht1]
        refine cnd (by simp) (cnd hWv (cnd (by rw [hrv]; simp; omega) ?_))
        intro rs1 h3
        have h3l : rs1.length = R.length + 1 := by rw [← h3]; simp; omega
        have h3v : allV rs1 = true := by rw [← h3]; exact ZbE (Zcv hrv _) (ZbE hWv (Zcq hrv _))
        refine cnd (by simp only [Bool.and_eq_true, decide_eq_true_eq]; omega) (cnd (by simp; omega) (cnd (by simp only [Bool.and_eq_true, decide_eq_true_eq]; omega) ?_))
        intro _ _ _ h4 h5 h6 c2 hc2
        subst h4 h5 h6
        have hc2 : c2 = R.length - j := by omega
        subst hc2
        rw [cutd (by omega)]
        have hdl : (List.drop j R).length = R.length - j := by simp
        have hdt : List.take (R.length - j) (List.drop j R) = List.drop j R := List.take_of_length_le (by omega)
        refine cnd (by simp; omega) (cnd (Zcq hR _) (cnd (by rw [h3v]; simp; omega) ?_))
        intro rs2 h7
        have h8 : rs2 = ins R j W := by
          rw [← h7, hdt, ← h3, ← h2]
          simp only [List.length_singleton]
          rw [show j + 1 + (List.drop j R).length = R.length + 1 by omega]
          exact Zuh hj Z
        subst h8
        refine cnd (by rw [hil, hkeep _ hi]; simp) ?_
        rw [List.take_of_length_le (by omega)]
        simp only [Nat.sub_self, List.take_zero]
        exact hK
      · refine cndF (by simp; omega) (cnd (by simp; omega) ?_)
        intro _ _ _ h1 h2 h3
        subst h1 h2 h3
        refine cnd (by simp only [Bool.and_eq_true, decide_eq_true_eq]; omega) (cnd (by simp; omega) ?_)
        intro _ _ _ h1 h2 h3
        subst h1 h2 h3
        refine cnd (by simp; omega) ⟨hu, ?_⟩
        refine cnd (by simp only [Bool.and_eq_true, decide_eq_true_eq]; omega) (cnd (by simp; omega) ?_)
        intro _ _ _ h1 h2 h3
        subst h1 h2 h3
        refine cnd (by simp only [Bool.and_eq_true, decide_eq_true_eq]; omega) (cnd (by simp; omega) ?_)
        intro _ _ _ h1 h2 h3 c1 hc1
        subst h1 h2 h3
        have hc1 : c1 = R.length - j := by omega
        subst hc1
        simp only [a0]
        rw [cutd (by omega)]
        have hdl : (List.drop j R).length = R.length - j := by simp
        have hdt : List.take (R.length - j) (List.drop j R) = List.drop j R := List.take_of_length_le (by omega)
        refine cnd (by simp; omega) (cnd (Zcq hR _) (cnd (by rw [hR]; simp; omega) ?_))
        intro rs h1
        have hrv : allV rs = true := by rw [← h1]; exact ZbE (Zcv hR _) (ZbE (Zcv (Zcq hR _) _) (Zcq hR _))
        have hrl : rs.length = R.length + 1 := by rw [← h1]; simp; omega
        refine cnd (by simp only [Bool.and_eq_true, decide_eq_true_eq]; omega) (cnd (by simp; omega) ?_)
        intro _ _ _ h2 h3 h4 c2 hc2
        subst h2 h3 h4
        have hc2 : c2 = 1 := by rw [← hc2]; exact Nat.min_eq_left (by omega)
        subst hc2
        simp only [hW1, ht1]
        refine cnd (by simp) (cnd hWv (cnd (by rw [hrv]; simp; omega) ?_))
        intro rs1 h5
        have h6 : rs1 = ins R j W := by
          rw [← h5, ← h1, hdt, hdl]
          simp only [List.length_singleton]
          exact ZuW hjl
        subst h6
        refine cnd (by rfl) (cnd (by rw [hil, hkeep _ hi]; simp) ?_)
        rw [List.take_of_length_le (by omega)]
        simp only [Nat.sub_self, List.take_zero]
        exact hK
theorem Zti : Zas Tryz.prog hIns (Zao Tryz.f140) := fun b hb s hs => by cases hs
theorem Zql (a b c : Int) : CT Tryz.prog 140 [oS 3 [] [], I 0, oS 3 [[vI a, vI b, vI c]] []] (.c (.s 1 3 [[vI a, vI b, vI c]] [])) := by
  refine Zcx (H := hIns) Zn5 mixed 200 Tryz.func140 (c := Zao Tryz.f140) rfl Zti (Nat.le_of_ble_eq_true rfl) rfl ?_
  rw [ZuS]
theorem Zrv {R : List (List D)} {j : Nat} (a b c : Int) (hR : allV R = true) (hj : j ≤ R.length) (hn : R.length ≤ 5864062014634) (h0 : R.length ≠ 0) : CT Tryz.prog 140 [oS 3 R [], I j, oS 3 [[vI a, vI b, vI c]] []] (.c (.s 1 3 (ins R j [vI a, vI b, vI c]) [])) := by
  refine Zln Tryz.func140 (c := Zao Tryz.f140) rfl (Nat.le_of_ble_eq_true rfl) rfl ?_
  refine Ztg (k := 1000000) (g := 1) (wd := 3) (lo := 0) (len := R.length) (kn := R.length + 0) 0 (Nat.le_of_ble_eq_true rfl) rfl (fun cap h3 h4 => ?_) (fun _ h3 _ => (h0 h3).elim)
  exact Za4 Zn5 mixed 200 _ _ _ Zti (Ztk hR hj hn h3 _ rfl)
def sIns : Spec := fun ds Q => match ds with
  | [.c (.s 1 3 R sp), .c (.v (.int .i64 j)), .c (.s 1 3 [[.v (.int .i64 a), .v (.int .i64 b), .v (.int .i64 c)]] [])] => cond (allV R && (decide (0 ≤ j) && (decide (j ≤ R.length) && decide (R.length ≤ 5864062014634)))) (Q (.c (.s 1 3 (ins R j.toNat [vI a, vI b, vI c]) []))) False
  | _ => False
theorem oIns : Zad Tryz.prog 140 sIns := o_of Tryz.func140 (by kernel_rfl) rfl fun ds Q h => by
  unfold sIns at h; split at h
  · rename_i R sp j a b c
    obtain ⟨h1, h2⟩ := Zae h
    simp only [Bool.and_eq_true, decide_eq_true_eq] at h1
    obtain ⟨q1, q2, q3, q4⟩ := h1
    obtain ⟨n, rfl⟩ := Int.eq_ofNat_of_zero_le q2
    rw [Int.toNat_natCast] at h2
    have hi : allV (ins R n [vI a, vI b, vI c]) = true := Zlk q1 rfl n
    refine ⟨_, ?_, by simp [DV.pureOwn, DV.pure1, D.pureOwn, ZaA hi]; rfl, rfl, h2⟩
    by_cases h0 : R.length = 0
    · have hR : R = [] := List.eq_nil_of_length_eq_zero h0
      subst hR
      have hn : n = 0 := by simp at q3; omega
      subst hn
      exact (Zql a b c).less
    · exact (Zrv (j := n) a b c q1 (by omega) q4 h0).less
  · exact h.elim
end

section
open Go Go.Proofs
def gW (l : List (FuncId × Spec)) : Hooks := { hkA band bor l [] with give := fun f => Nat.beq f 140 }
theorem ZtL {l : List (FuncId × Spec)} (h : SpecsOK Tryz.prog l) : Zal Tryz.prog (gW l) := ⟨fun _ _ => rfl, fun _ _ => rfl, ⟨fun _ => rfl, fun _ => rfl, fun _ => rfl⟩, fun f ds Q hq => ZdJ h f ds Q hq, Zd5 rfl⟩
theorem Zu6 (R sp : List (List D)) (a b c : Int) (K : DV → Prop) : (evp Tryz.prog (gW [(106, sWMy), (137, ZbH), (138, sBSF), (140, sIns)]) 200 (Zao Tryz.f86) (finX Tryz.prog Tryz.f86 K) (Zbm 42 [dS 3 R sp, .agg [vI a, vI b, vI c]])) = (bif okZ (3) R then bif !ZbQ (toZ R) then K (DV.tup [DV.c (D.s (1) (3) [] []), DV.c (D.v (Value.int IntKind.i64 (1000)))]) else bif !ZbQ (toZ [[D.v (Value.int IntKind.i64 a), D.v (Value.int IntKind.i64 b), D.v (Value.int IntKind.i64 c)]]) then K (DV.tup [DV.c (D.s (1) (3) [] []), DV.c (D.v (Value.int IntKind.i64 (1000)))]) else bif allV R && decide (List.length R ≤ 5864062014635) then bif okZ (3) R && decide (List.length R ≤ 4611686018427387903) then bif isW (toZ R) a b then bif decide (0 ≤ @Nat.cast Int _ (bsAt (ltW (toZ R) a b) (List.length (toZ R)))) && decide (@Nat.cast Int _ (bsAt (ltW (toZ R) a b) (List.length (toZ R))) < @Nat.cast Int _ (List.length R)) then bif decide (addN (0) (Int.toNat (@Nat.cast Int _ (bsAt (ltW (toZ R) a b) (List.length (toZ R))))) < List.length (R ++ [])) && decide (0 + 3 ≤ 3) then bif decide (List.length R ≤ List.length (List.set (R ++ []) (addN (0) (Int.toNat (@Nat.cast Int _ (bsAt (ltW (toZ R) a b) (List.length (toZ R)))))) (D.v (Value.int IntKind.i64 a) :: D.v (Value.int IntKind.i64 b) :: D.v (Value.int IntKind.i64 c) :: List.drop (0 + 3) (List.getD (R ++ []) (addN (0) (Int.toNat (@Nat.cast Int _ (bsAt (ltW (toZ R) a b) (List.length (toZ R)))))) [])))) && List.all (List.set (R ++ []) (addN (0) (Int.toNat (@Nat.cast Int _ (bsAt (ltW (toZ R) a b) (List.length (toZ R)))))) (D.v (Value.int IntKind.i64 a) :: D.v (Value.int IntKind.i64 b) :: D.v (Value.int IntKind.i64 c) :: List.drop (0 + 3) (List.getD (R ++ []) (addN (0) (Int.toNat (@Nat.cast Int _ (bsAt (ltW (toZ R) a b) (List.length (toZ R)))))) []))) fun r => List.all r D.keeps then K (DV.tup [DV.c (D.s (1) (3) (List.take (List.length R) (List.set (R ++ []) (addN (0) (Int.toNat (@Nat.cast Int _ (bsAt (ltW (toZ R) a b) (List.length (toZ R)))))) (D.v (Value.int IntKind.i64 a) :: D.v (Value.int IntKind.i64 b) :: D.v (Value.int IntKind.i64 c) :: List.drop (0 + 3) (List.getD (R ++ []) (addN (0) (Int.toNat (@Nat.cast Int _ (bsAt (ltW (toZ R) a b) (List.length (toZ R)))))) [])))) (List.take (List.length R + 0 - List.length R) (List.drop (List.length R) (List.set (R ++ []) (addN (0) (Int.toNat (@Nat.cast Int _ (bsAt (ltW (toZ R) a b) (List.length (toZ R)))))) (D.v (Value.int IntKind.i64 a) :: D.v (Value.int IntKind.i64 b) :: D.v (Value.int IntKind.i64 c) :: List.drop (0 + 3) (List.getD (R ++ []) (addN (0) (Int.toNat (@Nat.cast Int _ (bsAt (ltW (toZ R) a b) (List.length (toZ R)))))) [])))))), DV.c (D.v (Value.int IntKind.i64 (0)))]) else False else False else False else bif @Nat.cast Int _ (List.length R) == 16 then K (DV.tup [DV.c (D.s (1) (3) [] []), DV.c (D.v (Value.int IntKind.i64 (1000)))]) else bif decide (List.length R ≤ List.length (R ++ [])) && List.all (R ++ []) fun r => List.all r D.keeps then bif allV (R ++ []) then bif allV (List.take (List.length R) (R ++ [])) && (decide (0 ≤ @Nat.cast Int _ (bsAt (ltW (toZ R) a b) (List.length (toZ R)))) && (decide (@Nat.cast Int _ (bsAt (ltW (toZ R) a b) (List.length (toZ R))) ≤ @Nat.cast Int _ (List.length (List.take (List.length R) (R ++ [])))) && decide (List.length (List.take (List.length R) (R ++ [])) ≤ 5864062014634))) then bif decide (List.length (ins (List.take (List.length R) (R ++ [])) (Int.toNat (@Nat.cast Int _ (bsAt (ltW (toZ R) a b) (List.length (toZ R))))) [D.v (Value.int IntKind.i64 a), D.v (Value.int IntKind.i64 b), D.v (Value.int IntKind.i64 c)]) ≤ List.length (ins (List.take (List.length R) (R ++ [])) (Int.toNat (@Nat.cast Int _ (bsAt (ltW (toZ R) a b) (List.length (toZ R))))) [D.v (Value.int IntKind.i64 a), D.v (Value.int IntKind.i64 b), D.v (Value.int IntKind.i64 c)] ++ [])) && List.all (ins (List.take (List.length R) (R ++ [])) (Int.toNat (@Nat.cast Int _ (bsAt (ltW (toZ R) a b) (List.length (toZ R))))) [D.v (Value.int IntKind.i64 a), D.v (Value.int IntKind.i64 b), D.v (Value.int IntKind.i64 c)] ++ []) fun r => List.all r D.keeps then K (DV.tup [DV.c (D.s (1) (3) (List.take (List.length (ins (List.take (List.length R) (R ++ [])) (Int.toNat (@Nat.cast Int _ (bsAt (ltW (toZ R) a b) (List.length (toZ R))))) [D.v (Value.int IntKind.i64 a), D.v (Value.int IntKind.i64 b), D.v (Value.int IntKind.i64 c)])) (ins (List.take (List.length R) (R ++ [])) (Int.toNat (@Nat.cast Int _ (bsAt (ltW (toZ R) a b) (List.length (toZ R))))) [D.v (Value.int IntKind.i64 a), D.v (Value.int IntKind.i64 b), D.v (Value.int IntKind.i64 c)] ++ [])) (List.take (List.length (ins (List.take (List.length R) (R ++ [])) (Int.toNat (@Nat.cast Int _ (bsAt (ltW (toZ R) a b) (List.length (toZ R))))) [D.v (Value.int IntKind.i64 a), D.v (Value.int IntKind.i64 b), D.v (Value.int IntKind.i64 c)]) + 0 - List.length (ins (List.take (List.length R) (R ++ [])) (Int.toNat (@Nat.cast Int _ (bsAt (ltW (toZ R) a b) (List.length (toZ R))))) [D.v (Value.int IntKind.i64 a), D.v (Value.int IntKind.i64 b), D.v (Value.int IntKind.i64 c)])) (List.drop (List.length (ins (List.take (List.length R) (R ++ [])) (Int.toNat (@Nat.cast Int _ (bsAt (ltW (toZ R) a b) (List.length (toZ R))))) [D.v (Value.int IntKind.i64 a), D.v (Value.int IntKind.i64 b), D.v (Value.int IntKind.i64 c)])) (ins (List.take (List.length R) (R ++ [])) (Int.toNat (@Nat.cast Int _ (bsAt (ltW (toZ R) a b) (List.length (toZ R))))) [D.v (Value.int IntKind.i64 a), D.v (Value.int IntKind.i64 b), D.v (Value.int IntKind.i64 c)] ++ [])))), DV.c (D.v (Value.int IntKind.i64 (0)))]) else False else False else False else False else False else False else False) := by kernel_rfl
theorem Zkj (p : Nat → Bool) (m n : Nat) (h1 : ∀ h, h < m → p h = true) (h2 : ∀ h, m ≤ h → h < n → p h = false) : ∀ (f i j : Nat), j - i ≤ f → i ≤ m → m ≤ j → j ≤ n → bsR p f i j = m
  | 0, i, j, h, hi, hj, _ => by simp only [bsR]; omega
  | f + 1, i, j, h, hi, hj, hn => by
    by_cases hij : i < j
    · simp only [bsR, hij, decide_true, cond_true]
      by_cases hm : (i + j) / 2 < m
      · rw [h1 _ hm]; exact Zkj p m n h1 h2 f _ _ (by omega) (by omega) hj hn
      · rw [h2 _ (by omega) (by omega)]; exact Zkj p m n h1 h2 f _ _ (by omega) hi (by omega) (by omega)
    · simp only [bsR, hij, decide_false, cond_false]; omega
def ZaX (l : List (List Int)) (k : Int) : Nat := (l.takeWhile fun r => decide (key r < k)).length
theorem Zd4 (l : List (List Int)) (k : Int) : ZaX l k ≤ l.length := (List.takeWhile_prefix _).length_le
theorem ZgM (l : List (List Int)) (k : Int) : l.take (ZaX l k) = l.takeWhile fun r => decide (key r < k) := by
  have := List.takeWhile_prefix (l := l) fun r => decide (key r < k)
  exact (List.prefix_iff_eq_take.1 this).symm
theorem Ze4 {l : List (List Int)} {k : Int} {h : Nat} (hh : h < ZaX l k) : key (l.getD h []) < k := by
  have hl : h < l.length := Nat.lt_of_lt_of_le hh (Zd4 l k)
  have e := ZgM l k
  have hm : l[h] ∈ l.takeWhile fun r => decide (key r < k) := by
    rw [← e]
    exact List.mem_take_iff_getElem.2 ⟨h, by omega, rfl⟩
  have := List.all_eq_true.1 (List.all_takeWhile (l := l) (p := fun r => decide (key r < k))) _ hm
  simpa [List.getD_eq_getElem?_getD, hl] using this
theorem ZkZ {l : List (List Int)} {k : Int} (hh : ZaX l k < l.length) : k ≤ key (l.getD (ZaX l k) []) := by
  have e : l.dropWhile (fun r => decide (key r < k)) = l.drop (ZaX l k) := by
    have h1 := List.takeWhile_append_dropWhile (p := fun r => decide (key r < k)) (l := l)
    have h2 := List.take_append_drop (ZaX l k) l
    rw [ZgM] at h2
    exact List.append_cancel_left (h1.trans h2.symm)
  obtain ⟨x, hd, hx⟩ : ∃ x, l.drop (ZaX l k) = x :: l.drop (ZaX l k + 1) ∧ l.getD (ZaX l k) [] = x := ⟨l[ZaX l k]'hh, List.drop_eq_getElem_cons hh, by simp [List.getD_eq_getElem?_getD, hh]⟩
  have hne : l.dropWhile (fun r => decide (key r < k)) ≠ [] := by rw [e, hd]; simp
  have := List.head_dropWhile_not (fun r => decide (key r < k)) (l := l) hne
  have h3 : (l.dropWhile (fun r => decide (key r < k))).head hne = x := by
    simp only [e, hd, List.head_cons]
  rw [h3] at this
  rw [hx]
  simpa using this
theorem Zjp {l : List (List Int)} (h : okWs l) : ∀ (i j : Nat), i < j → j < l.length → key (l.getD i []) < key (l.getD j []) := by
  intro i j hij
  induction j with
  | zero => omega
  | succ j ih =>
    intro hj
    have h1 := (h (j + 1) hj).2 (by omega)
    rw [Nat.add_sub_cancel] at h1
    by_cases e : i = j
    · subst e; exact h1
    · have := ih (by omega) (by omega); omega
theorem ZiT {l : List (List Int)} (h : okWs l) {a b : Int} (ha : 0 ≤ a ∧ a ≤ 3) (hb : 0 ≤ b ∧ b ≤ 3) : bsAt (ltW l a b) l.length = ZaX l (4 * a + b) := by
  refine Zkj _ _ l.length (fun i hi => ?_) (fun i hi hn => ?_) _ _ _ (Nat.le_refl _) (Nat.zero_le _) (Zd4 _ _) (Nat.le_refl _)
  · have hl : i < l.length := Nat.lt_of_lt_of_le hi (Zd4 _ _)
    exact decide_eq_true ((ZfB (Zcj (h i hl).1).1 ha hb).1.2 (Ze4 hi))
  · have hlm : ZaX l (4 * a + b) < l.length := by omega
    have h1 := ZkZ hlm
    have h2 : key (l.getD (ZaX l (4 * a + b)) []) ≤ key (l.getD i []) := by
      by_cases e : i = ZaX l (4 * a + b)
      · rw [e]; exact Int.le_refl _
      · exact Int.le_of_lt (Zjp h _ _ (by omega) hn)
    refine decide_eq_false fun hlt => ?_
    have := (ZfB (Zcj (h i hn).1).1 ha hb).1.1 hlt
    omega
def hasW (l : List (List Int)) (k : Int) : Bool := decide (ZaX l k < l.length) && decide (key (l.getD (ZaX l k) []) = k)
theorem ZqS {l : List (List Int)} (h : okWs l) {a b : Int} (ha : 0 ≤ a ∧ a ≤ 3) (hb : 0 ≤ b ∧ b ≤ 3) : isW l a b = hasW l (4 * a + b) := by
  unfold isW hasW
  rw [ZiT h ha hb]
  by_cases hl : ZaX l (4 * a + b) < l.length
  · have := (ZfB (Zcj (h _ hl).1).1 ha hb).2
    simp only [hl, decide_true, cond_true, Bool.true_and]
    by_cases e : rw3 (l.getD (ZaX l (4 * a + b)) []) a b = 0
    · rw [e, decide_eq_true (this.1 e)]; rfl
    · rw [decide_eq_false fun h => e (this.2 h)]; simpa using e
  · simp [hl]
def putW (l : List (List Int)) (r : List Int) : List (List Int) := l.take (ZaX l (key r)) ++ r :: l.drop (bif hasW l (key r) then ZaX l (key r) + 1 else ZaX l (key r))
theorem ZnI {l : List (List Int)} (h : okWs l) (h16 : l.length = 16) {k : Int} (hk : 0 ≤ k ∧ k ≤ 15) : hasW l k = true := by
  have key_ge : ∀ i : Nat, i < 16 → (i : Int) ≤ key (l.getD i []) := by
    intro i
    induction i with
    | zero =>
      intro _
      have := (Zcj (h 0 (by omega)).1).1
      unfold inW at this; unfold key; omega
    | succ i ih => intro hi; have := ih (by omega); have := Zjp h i (i + 1) (by omega) (by omega); omega
  have key_le : ∀ d : Nat, d < 16 → key (l.getD (15 - d) []) ≤ 15 - (d : Int) := by
    intro d
    induction d with
    | zero =>
      intro _
      have := (Zcj (h 15 (by omega)).1).1
      unfold inW at this; unfold key; simp only [Nat.sub_zero]; omega
    | succ d ih =>
      intro hd
      have := ih (by omega)
      have h2 := Zjp h (15 - (d + 1)) (15 - d) (by omega) (by omega)
      omega
  have hkey : ∀ i : Nat, i < 16 → key (l.getD i []) = i := fun i hi => by
    have h1 := key_ge i hi
    have h2 := key_le (15 - i) (by omega)
    rw [show 15 - (15 - i) = i by omega] at h2
    omega
  obtain ⟨n, rfl⟩ := Int.eq_ofNat_of_zero_le hk.1
  have hle := Zd4 l (n : Int)
  have hlt : ZaX l (n : Int) < l.length := by
    rcases Nat.lt_or_ge (ZaX l (n : Int)) l.length with h' | h'
    · exact h'
    · exfalso
      have := Ze4 (l := l) (k := (n : Int)) (h := 15) (by omega)
      rw [hkey 15 (by omega)] at this; omega
  have h1 := ZkZ hlt
  have hm : ZaX l (n : Int) < 16 := by omega
  rw [hkey _ hm] at h1
  unfold hasW
  rw [decide_eq_true hlt, hkey _ hm]
  by_cases e : ZaX l (n : Int) = n
  · rw [e]; simp
  · exfalso
    have := Ze4 (l := l) (k := (n : Int)) (h := ZaX l (n : Int) - 1) (by omega)
    have : n < ZaX l (n : Int) := by omega
    have := Ze4 (l := l) (k := (n : Int)) (h := n) this
    rw [hkey n (by omega)] at this; omega
theorem Zuy (r : List Int) : ZbQ [r] = okw r := by
  unfold ZbQ ZdT
  simp [List.range, List.range.loop]
def ZaW (l : List (List Int)) (r : List Int) : List (List Int) := bif ZbQ l && okw r then putW l r else []
def Zqz (l : List (List Int)) (r : List Int) : Int := bif ZbQ l && okw r then 0 else 1000
theorem Zq5 (l : List (List Int)) (m : Nat) (r : List Int) (h : m < l.length) : l.set m r = l.take m ++ r :: l.drop (m + 1) := List.set_eq_take_append_cons_drop.trans (by rw [if_pos h])
theorem Zs9 (l : List (List Int)) (m : Nat) (a b c : Int) : ins (mZ l) m [vI a, vI b, vI c] = mZ (l.take m ++ [a, b, c] :: l.drop m) := by
  simp [ins, mZ, List.map_take, List.map_drop]
def sWth : Spec := fun ds Q => match ds with
  | [.c (.s 0 3 R sp), .agg [.v (.int .i64 a), .v (.int .i64 b), .v (.int .i64 c)]] => cond (okZ 3 R) (Q (.tup [.c (.s 1 3 (mZ (ZaW (toZ R) [a, b, c])) []), I (Zqz (toZ R) [a, b, c])])) False
  | _ => False
theorem Zqo {l : List (List Int)} {sp : List (List D)} {a b c : Int} (hw : wid 3 l) (hn : l.length ≤ 9223372036854775807) (K : DV → Prop) (hK : K (.tup [.c (.s 1 3 (mZ (ZaW l [a, b, c])) []), I (Zqz l [a, b, c])])) :
    evp Tryz.prog (gW [(106, sWMy), (137, ZbH), (138, sBSF), (140, sIns)]) 200 (Zao Tryz.f86) (finX Tryz.prog Tryz.f86 K) (Zbm 42 [dS 3 (mZ l) sp, .agg [vI a, vI b, vI c]]) := by
  rw [Zu6]
  have hk : okZ 3 (mZ l) = true := Zdo hw hn
  have h1 : toZ [[D.v (Value.int IntKind.i64 a), D.v (Value.int IntKind.i64 b), D.v (Value.int IntKind.i64 c)]] = [[a, b, c]] := rfl
  simp only [hk, cond_true, ZbY, h1, Zuy]
  unfold ZaW Zqz at hK
  cases hm : ZbQ l with
  | false => rw [hm] at hK; exact hK
  | true =>
    cases ho : okw [a, b, c] with
    | false => rw [hm, ho] at hK; exact hK
    | true =>
      rw [hm, ho] at hK
      obtain ⟨h16, hws⟩ := (Zo8 l).1 hm
      have hin := (Zcj ho).1
      have ha : 0 ≤ a ∧ a ≤ 3 := hin.1
      have hb : 0 ≤ b ∧ b ≤ 3 := hin.2
      have hkey : key [a, b, c] = 4 * a + b := rfl
      have hv : allV (mZ l) = true := Zez l
      have hL : List.length (mZ l) = l.length := Zaf l
      simp only [Bool.and_self, cond_true, Bool.not_true, cond_false, ZiT hws ha hb, ZqS hws ha hb, List.append_nil, hL, hv, Int.toNat_natCast, ZcL, Nat.zero_add, Nat.le_refl, decide_true, Nat.add_zero, Nat.sub_self, List.take_zero, Int.natCast_nonneg, Bool.true_and, Int.ofNat_lt, Int.ofNat_le, List.length_set] at hK ⊢
      unfold putW at hK
      rw [hkey] at hK
      have hle := Zd4 l (4 * a + b)
      refine cnd (by simp; omega) (cnd (by simp; omega) ?_)
      cases hh : hasW l (4 * a + b) with
      | true =>
        rw [hh] at hK
        have hlt : ZaX l (4 * a + b) < l.length := by
          unfold hasW at hh
          simp only [Bool.and_eq_true, decide_eq_true_eq] at hh
          exact hh.1
        have hr : l.getD (ZaX l (4 * a + b)) [] = l.getD (ZaX l (4 * a + b)) [] := rfl
        have hd3 : List.drop 3 (List.getD (mZ l) (ZaX l (4 * a + b)) []) = [] := List.drop_eq_nil_of_le (by rw [ZhS, List.length_map, Zbv hw hlt]; exact Nat.le_refl _)
        have he : List.set (mZ l) (ZaX l (4 * a + b)) [D.v (Value.int IntKind.i64 a), D.v (Value.int IntKind.i64 b), D.v (Value.int IntKind.i64 c)] = mZ (l.take (ZaX l (4 * a + b)) ++ [a, b, c] :: l.drop (ZaX l (4 * a + b) + 1)) := by
          rw [← Zq5 l _ _ hlt, ← ZrO]; rfl
        simp only [cond_true, hlt, decide_true, hd3, he, ZaD (Zez _), Nat.le_refl] at hK ⊢
        rw [List.take_of_length_le (by rw [Zaf]; simp; omega)]
        exact hK
      | false =>
        rw [hh] at hK
        have hne : ¬ l.length = 16 := fun h => by
          have := ZnI hws h (k := 4 * a + b) (by omega)
          rw [hh] at this; cases this
        have h17 : ((l.length : Int) == 16) = false := by simp; omega
        have hkp := ZaD hv
        have hkp2 := ZaD (Zez (l.take (ZaX l (4 * a + b)) ++ [a, b, c] :: l.drop (ZaX l (4 * a + b))))
        have ht : List.take l.length (mZ l) = mZ l := List.take_of_length_le (by rw [Zaf]; exact Nat.le_refl _)
        have hi : ins (mZ l) (ZaX l (4 * a + b)) [D.v (Value.int IntKind.i64 a), D.v (Value.int IntKind.i64 b), D.v (Value.int IntKind.i64 c)] = mZ (l.take (ZaX l (4 * a + b)) ++ [a, b, c] :: l.drop (ZaX l (4 * a + b))) := Zs9 l _ a b c
        simp only [cond_false, h17, ht, hL, hi, hkp, hkp2, hv, hle, decide_true, cond_true, Nat.le_refl, Bool.and_self, Bool.true_and, Nat.sub_self, List.take_zero] at hK ⊢
        refine cnd (by simp; omega) ?_
        rw [List.take_of_length_le (Nat.le_refl _)]
        exact hK
theorem oWth : Zad Tryz.prog 86 sWth := o_of Tryz.func86 (by kernel_rfl) rfl fun ds Q h => by
  unfold sWth at h; split at h
  · rename_i R sp a b c
    obtain ⟨h1, h2⟩ := Zae h
    obtain ⟨e1, w1, n1⟩ := Zag h1
    rw [e1]
    rw [← Zau R] at n1
    generalize toZ R = l at *
    have hv := Zez (ZaW l [a, b, c])
    refine ⟨_, Zcx (ZtL (.cons oWMy (.cons ZeI (.cons oBSF (.cons oIns .nil))))) mixed 200 Tryz.func86 (c := Zao Tryz.f86) rfl (fun b hb s hs => by cases hs) (Nat.le_of_ble_eq_true rfl) rfl (Zqo w1 n1 _ rfl), by simp [DV.pureOwn, DV.pure1, D.pureOwn, DV.pureOwn.go, ZaA hv]; rfl, rfl, h2⟩
  · exact h.elim
end

section
open Go Go.Proofs
def in64 (x : Int) : Bool := decide (-9223372036854775808 ≤ x) && decide (x ≤ 9223372036854775807)
end

section
open Go Go.Proofs
theorem o_al {f : FuncId} {fn : Func} {s : Spec} (hf : Tryz.prog.funcs[f]? = some fn) (hn : (fn.name == "runtime.NumGoroutine") = false) (hb : fn.body.isNone = false) (hc : ∀ ds Q, s ds Q → ∃ es r, All2 AL ds es ∧ CT Tryz.prog f es r ∧ r.pureOwn = true ∧ r.fit32 = true ∧ Q r) : Zad Tryz.prog f s := fun ds Q h => ⟨Zar hf hn hb, by
  obtain ⟨es, r, h0, h1, h2, h3, h4⟩ := hc ds Q h
  exact ⟨r, h1.args h0, .inl h2, h3, h4⟩⟩
theorem RD.shift {t t' off n : Nat} {cs : List D} : RD (.p t cs off) (.p t' ((cs.drop off).take n) 0) := fun w G v hv => by
  cases hv with
  | p _ _ b o _ vs hb hc hd =>
    have := DR.p (w := w) (G := G) t' ((cs.drop off).take n) b (o + off) 0 (fun j => vs (off + j)) hb (fun j hj => by
      have : off + j < cs.length := by simp at hj; omega
      rw [Nat.add_assoc]; exact hc (off + j) this) (fun j d hj => by
      rw [List.getElem?_take] at hj
      split at hj
      · rw [List.getElem?_drop] at hj
        exact hd (off + j) d hj
      · cases hj)
    simpa using this
theorem RD.trans {a b c : D} (h : RD a b) (h' : RD b c) : RD a c := fun w G v hv => h' w G v (h w G v hv)
theorem RD.f {fn : FuncId} {fs fs' cs cs' : List D} (h : All2 RD fs fs') (h' : All2 RD cs cs') (hn : fn ≠ AG) : RD (.f fn fs cs) (.f fn fs' cs') := fun w G v hv => by
  cases hv with
  | a => exact (hn rfl).elim
  | f _ _ _ fv cv h0 h1 h2 h3 h4 =>
    refine .f fn fs' cs' fv cv h0 (by rw [← h.len]; exact h1) (by rw [← h'.len]; exact h2) (fun i d hi => ?_) (fun i d hi => ?_)
    · obtain ⟨d0, g1, g2⟩ := h.get hi
      exact g2 _ _ _ (h3 i d0 g1)
    · obtain ⟨d0, g1, g2⟩ := h'.get hi
      exact g2 _ _ _ (h4 i d0 g1)
theorem RD.ag {cs cs' : List D} (h' : All2 RD cs cs') : RD (.f AG [] cs) (.f AG [] cs') := fun w G v hv => by
  cases hv with
  | f _ _ _ fv cv h0 => exact (h0 rfl).elim
  | a _ vs h1 h2 =>
    refine .a cs' vs (by rw [← h'.len]; exact h1) fun i d hi => ?_
    obtain ⟨d0, g1, g2⟩ := h'.get hi
    exact g2 _ _ _ (h2 i d0 g1)
def Zrr (cs : List D) (K : Int → Int → Int → Int → Prop) : Prop := match cs with
  | a :: b :: c :: d :: _ => Zbt a fun a => Zbt b fun b => Zbt c fun c => Zbt d fun d => K a b c d
  | _ => False
theorem Zl0 {cs : List D} {K : Int → Int → Int → Int → Prop} (h : Zrr cs K) : ∃ a b c d, K a b c d ∧ All2 RD (cs.take 4) [vN a, vN b, vN c, vN d] := by
  unfold Zrr at h
  split at h
  · obtain ⟨a, h, e0⟩ := Zak h
    obtain ⟨b, h, e1⟩ := Zak h
    obtain ⟨c, h, e2⟩ := Zak h
    obtain ⟨d, h, e3⟩ := Zak h
    exact ⟨a, b, c, d, h, .cons e0 (.cons e1 (.cons e2 (.cons e3 .nil)))⟩
  · exact h.elim
def Zli (d : D) (K : Int → Int → Int → Int → Prop) : Prop := match d with
  | .p _ cs off => Zrr (cs.drop off) K
  | _ => False
theorem ZfU {d : D} {K : Int → Int → Int → Int → Prop} (h : Zli d K) : ∃ a b c e, K a b c e ∧ RD d (.p 0 [vN a, vN b, vN c, vN e] 0) ∧ d.isOwn = false := by
  unfold Zli at h
  split at h
  · obtain ⟨a, b, c, d, h, e⟩ := Zl0 h
    exact ⟨a, b, c, d, h, (RD.shift (t' := 0)).trans (RD.cells e), rfl⟩
  · exact h.elim
def ZgU (cs : List D) (K : List (List D) → List (List D) → List (List D) → List (List D) → Prop) : Prop := match cs with
  | a :: b :: c :: d :: _ => ZbV 3 a fun a => ZbV 3 b fun b => ZbV 3 c fun c => ZbV 3 d fun d => K a b c d
  | _ => False
abbrev wsL (a b c d : List (List D)) : List D := [.s 0 3 a [], .s 0 3 b [], .s 0 3 c [], .s 0 3 d []]
theorem ZcF {cs : List D} {K : List (List D) → List (List D) → List (List D) → List (List D) → Prop} (h : ZgU cs K) : ∃ a b c d, K a b c d ∧ All2 RD (cs.take 4) (wsL a b c d) := by
  unfold ZgU at h
  split at h
  · obtain ⟨a, h, e0⟩ := Zaq h
    obtain ⟨b, h, e1⟩ := Zaq h
    obtain ⟨c, h, e2⟩ := Zaq h
    obtain ⟨d, h, e3⟩ := Zaq h
    exact ⟨a, b, c, d, h, .cons e0 (.cons e1 (.cons e2 (.cons e3 .nil)))⟩
  · exact h.elim
def Zla (d : D) (K : List (List D) → List (List D) → List (List D) → List (List D) → Prop) : Prop := match d with
  | .p _ cs off => ZgU (cs.drop off) K
  | _ => False
theorem Zfk {d : D} {K : List (List D) → List (List D) → List (List D) → List (List D) → Prop} (h : Zla d K) : ∃ a b c e, K a b c e ∧ RD d (.p 0 (wsL a b c e) 0) ∧ d.isOwn = false := by
  unfold Zla at h
  split at h
  · obtain ⟨a, b, c, d, h, e⟩ := ZcF h
    exact ⟨a, b, c, d, h, (RD.shift (t' := 0)).trans (RD.cells e), rfl⟩
  · exact h.elim
def sNo : Spec := fun ds Q => match ds with | [.c (.v (.int .i64 x))] => lab x = false ∧ Q (B false) | _ => False
def v4 (a b c d : Int) : Bool := val8 a && (val8 b && (val8 c && val8 d))
theorem eRgM (a b c d : Int) (K : DV → Prop) : (ask Tryz.prog [(115, sB val8)] Tryz.f114 [.c (.p 0 [vi a, vi b, vi c, vi d] 0)] K) = (bif !val8 a then K (DV.c (D.v (Value.bool false))) else bif !val8 b then K (DV.c (D.v (Value.bool false))) else bif !val8 c then K (DV.c (D.v (Value.bool false))) else bif !val8 d then K (DV.c (D.v (Value.bool false))) else K (DV.c (D.v (Value.bool true)))) := by kernel_rfl
theorem cRgM (a b c d : Int) : CT Tryz.prog 114 [.c (.p 0 [vi a, vi b, vi c, vi d] 0)] (B (v4 a b c d)) := Zaj (.cons oVal .nil) mixed Tryz.func114 rfl rfl rfl (by
  rw [eRgM]; unfold v4; cases val8 a <;> cases val8 b <;> cases val8 c <;> cases val8 d <;> rfl)
theorem ZtG (a b c d : Int) (K : DV → Prop) : (ask Tryz.prog [(91, sB val8)] Tryz.f121 [.agg [vi a, vi b, vi c, vi d]] K) = (bif !val8 a then K (DV.c (D.v (Value.bool false))) else bif !val8 b then K (DV.c (D.v (Value.bool false))) else bif !val8 c then K (DV.c (D.v (Value.bool false))) else bif !val8 d then K (DV.c (D.v (Value.bool false))) else K (DV.c (D.v (Value.bool true)))) := by kernel_rfl
theorem Zt7 (a b c d : Int) : CT Tryz.prog 121 [.agg [vi a, vi b, vi c, vi d]] (B (v4 a b c d)) := Zaj (.cons Zfn .nil) mixed Tryz.func121 rfl rfl rfl (by
  rw [ZtG]; unfold v4; cases val8 a <;> cases val8 b <;> cases val8 c <;> cases val8 d <;> rfl)
def ZoX : Spec := fun ds Q => match ds with | [.agg [.v (.int .i64 a), .v (.int .i64 b), .v (.int .i64 c), .v (.int .i64 d)]] => Q (B (v4 a b c d)) | _ => False
theorem ZsN : Zad Tryz.prog 121 ZoX := fun ds Q h => by
  unfold ZoX at h; split at h
  · exact ⟨Zar Tryz.func121 (by kernel_rfl) rfl, _, Zt7 _ _ _ _, .inl rfl, rfl, h⟩
  · exact h.elim
structure N5 where (a b c d e : Int)
def ZhA (a b c d i v : Int) : N5 := if i = 0 then ⟨v, b, c, d, 0⟩ else if i = 1 then ⟨a, v, c, d, 0⟩ else if i = 2 then ⟨a, b, v, d, 0⟩ else ⟨a, b, c, v, 0⟩
theorem Zqq {x : Int} (h : 0 ≤ x ∧ x ≤ 255) : val8 x = true := by unfold val8 upto; simp; exact h
theorem ZuY {a b c d : Int} (h : v4 a b c d = true) : val8 a = true ∧ val8 b = true ∧ val8 c = true ∧ val8 d = true := by
  unfold v4 at h; simpa [Bool.and_eq_true] using h
def sRgM : Spec := fun ds Q => match ds with | [.c d] => Zli d fun a b c e => Q (B (v4 a b c e)) | _ => False
theorem oRgM : Zad Tryz.prog 114 sRgM := o_al Tryz.func114 (by kernel_rfl) rfl fun ds Q h => by
  unfold sRgM at h; split at h
  · obtain ⟨a, b, c, e, h, hr, ho⟩ := ZfU h
    exact ⟨_, _, .cons (.c hr ho rfl) .nil, cRgM a b c e, rfl, rfl, h⟩
  · exact h.elim
def ck4 (a b c d : Int) : Bool := clk a && (clk b && (clk c && clk d))
theorem eCkM (a b c d l : Int) (K : DV → Prop) : (ask Tryz.prog [(102, sB clk)] Tryz.f61 [.c (.p 0 [vi a, vi b, vi c, vi d] 0), I l] K) = (bif !clk a then K (DV.c (D.v (Value.bool false))) else bif !clk b then K (DV.c (D.v (Value.bool false))) else bif !clk c then K (DV.c (D.v (Value.bool false))) else bif !clk d then K (DV.c (D.v (Value.bool false))) else K (DV.c (D.v (Value.bool (clk l))))) := by kernel_rfl
def sCkM : Spec := fun ds Q => match ds with | [.c d, .c (.v (.int .i64 l))] => Zli d fun a b c e => Q (B (ck4 a b c e && clk l)) | _ => False
theorem oCkM : Zad Tryz.prog 61 sCkM := o_al Tryz.func61 (by kernel_rfl) rfl fun ds Q h => by
  unfold sCkM at h; split at h
  · rename_i d l
    obtain ⟨a, b, c, e, h, hr, ho⟩ := ZfU h
    refine ⟨[.c (.p 0 [vi a, vi b, vi c, vi e] 0), I l], _, .cons (.c hr ho rfl) (.cons (.refl _) .nil), Zaj (.cons oClk .nil) mixed Tryz.func61 rfl rfl rfl ?_, rfl, rfl, h⟩
    rw [eCkM]; unfold ck4; cases clk a <;> cases clk b <;> cases clk c <;> cases clk e <;> rfl
  · exact h.elim
end

section
open Go Go.Proofs
theorem Zd0 {α : Type} (l : List α) (p : α → Bool) : decide ((match l.findIdx? p with | some i => (i : Int) | none => -1) ≥ 0) = l.any p := by
  cases h : l.findIdx? p with
  | some i =>
    have : l.any p = true := by
      rw [List.findIdx?_eq_some_iff_getElem] at h
      obtain ⟨h1, h2, _⟩ := h
      exact List.any_eq_true.2 ⟨_, List.getElem_mem h1, h2⟩
    rw [this]; simp
  | none =>
    have : l.any p = false := by
      rw [List.findIdx?_eq_none_iff] at h
      rw [List.any_eq_false]; intro x hx; simpa using h x hx
    rw [this]; rfl
def thW (R0 R1 R2 R3 : List (List D)) (x y : Int) : Bool := thr R0.length R1.length R2.length R3.length x y
def Zfj (fn : Nat) (e : D) (K : List (List D) → List (List D) → List (List D) → List (List D) → Prop) : Prop := match e with
  | .f g fs cs => match Nat.beq g fn with
    | true => match fs, cs with
      | [x], [] => match x with
        | .f h gs ps => match Nat.beq h AG with
          | true => match gs, ps with
            | [], [p] => Zla p K
            | _, _ => False
          | false => False
        | _ => False
      | _, _ => False
    | false => False
  | _ => False
theorem Zb4 {fn : Nat} {e : D} {K : List (List D) → List (List D) → List (List D) → List (List D) → Prop} (hn : fn ≠ AG) (h : Zfj fn e K) : ∃ a b c d, K a b c d ∧ RD e (.f fn [.f AG [] [.p 0 (wsL a b c d) 0]] []) ∧ e.isOwn = false := by
  unfold Zfj at h
  split at h
  · split at h
    · rename_i hb
      have := Zaa hb; subst this
      split at h
      · split at h
        · split at h
          · rename_i hb2
            have := Zaa hb2; subst this
            split at h
            · obtain ⟨a, b, c, d, h, r, _⟩ := Zfk h
              exact ⟨a, b, c, d, h, RD.f (.cons (RD.ag (.cons r .nil)) .nil) .nil hn, rfl⟩
            · exact h.elim
          · exact h.elim
        · exact h.elim
      · exact h.elim
    · exact h.elim
  · exact h.elim
def isRW (c : Int) : Bool := bif c == 2 then true else c == 3
theorem eIWd (a b c d : Int) (K : DV → Prop) : (ask Tryz.prog [] Tryz.f162 [.agg [vi a, vi b, vi c, vi d]] K) = (bif a == 2 then K (DV.c (D.v (Value.bool true))) else K (DV.c (D.v (Value.bool (a == 3))))) := by kernel_rfl
def sIWd : Spec := fun ds Q => match ds with | [.agg [.v (.int .i64 a), .v (.int .i64 b), .v (.int .i64 c), .v (.int .i64 d)]] => Q (B (isRW a)) | _ => False
theorem oIWd : Zad Tryz.prog 162 sIWd := o_of Tryz.func162 (by kernel_rfl) rfl fun ds Q h => by
  unfold sIWd at h; split at h
  · rename_i a b c d
    refine ⟨_, Zaj .nil mixed Tryz.func162 rfl rfl rfl ?_, rfl, rfl, h⟩
    rw [eIWd]; unfold isRW; cases a == 2 <;> rfl
  · exact h.elim
def noRd (R0 R1 R2 R3 : List (List D)) (r : List Int) : Bool := !thW R0 R1 R2 R3 (r.getD 0 0) (r.getD 1 0)
theorem eLR (a b c : Int) (R0 R1 R2 R3 : List (List D)) (K : DV → Prop) : (ask Tryz.prog [(157, sThr)] Tryz.f108 [.agg [.p 0 [.s 0 3 R0 [], .s 0 3 R1 [], .s 0 3 R2 [], .s 0 3 R3 []] 0], .agg [vi a, vi b, vi c]] K) = (K (DV.c (D.v (Value.bool (thr (List.length R0) (List.length R1) (List.length R2) (List.length R3) a b))))) := by kernel_rfl
def sLR : Spec := fun ds Q => match ds with | [.agg [.p 0 [.s 0 3 R0 [], .s 0 3 R1 [], .s 0 3 R2 [], .s 0 3 R3 []] 0], .agg [.v (.int .i64 a), .v (.int .i64 b), .v (.int .i64 c)]] => Q (B (!noRd R0 R1 R2 R3 [a, b, c])) | _ => False
theorem oLR : Zad Tryz.prog 108 sLR := o_of Tryz.func108 (by kernel_rfl) rfl fun ds Q h => by
  unfold sLR at h; split at h
  · rename_i R0 R1 R2 R3 a b c
    refine ⟨_, Zaj ((.cons oThr .nil)) mixed Tryz.func108 rfl rfl rfl ?_, rfl, rfl, h⟩
    rw [eLR]; unfold noRd thW; simp only [List.getD_cons_zero, List.getD_cons_succ, Bool.not_not]
    try (cases isRW a <;> simp)
  · exact h.elim
theorem eLR1 (a b c : Int) (R0 R1 R2 R3 : List (List D)) (K : DV → Prop) : (ask Tryz.prog [(108, sLR)] Tryz.f156 [.agg [vi a, vi b, vi c], .c (.p 0 [.f 108 [.f 4294967295 [] [.p 0 [.s 0 3 R0 [], .s 0 3 R1 [], .s 0 3 R2 [], .s 0 3 R3 []] 0]] []] 0)] K) = (K (DV.c (D.v (Value.bool !!noRd R0 R1 R2 R3 [a, b, c])))) := by kernel_rfl
def sLR1 : Spec := fun ds Q => match ds with | [.agg [.v (.int .i64 a), .v (.int .i64 b), .v (.int .i64 c)], .c (.p 0 [.f 108 [.f 4294967295 [] [.p 0 [.s 0 3 R0 [], .s 0 3 R1 [], .s 0 3 R2 [], .s 0 3 R3 []] 0]] []] 0)] => Q (B (noRd R0 R1 R2 R3 [a, b, c])) | _ => False
theorem oLR1 : Zad Tryz.prog 156 sLR1 := o_of Tryz.func156 (by kernel_rfl) rfl fun ds Q h => by
  unfold sLR1 at h; split at h
  · exact ⟨_, Zaj (.cons oLR .nil) mixed Tryz.func156 rfl rfl rfl (by rw [eLR1, Bool.not_not]), rfl, rfl, h⟩
  · exact h.elim
def ZdD (R0 : List (List D)) (R1 : List (List D)) (R2 : List (List D)) (R3 : List (List D)) (R : List (List D)) (sp : List (List D)) (v : Int) (i : Int) : X := ⟨mkT 19 [(0, aS 3 R sp), (1, .c (.d (.f 156 [] [.p 0 [.f 108 [.f 4294967295 [] [.p 0 [.s 0 3 R0 [], .s 0 3 R1 [], .s 0 3 R2 [], .s 0 3 R3 []] 0]] []] 0]))), (4, ai v), (7, ai R.length), (8, ai i)], [], [], []⟩
def Zec (R0 : List (List D)) (R1 : List (List D)) (R2 : List (List D)) (R3 : List (List D)) (R : List (List D)) (sp : List (List D)) : Vw := fun y K => wI y 4 fun v => wI y 8 fun i => K (ZdD R0 R1 R2 R3 R sp v i)
theorem ZgY (R0 : List (List D)) (R1 : List (List D)) (R2 : List (List D)) (R3 : List (List D)) (R : List (List D)) (sp : List (List D)) : VwOK (Zec R0 R1 R2 R3 R sp) := fun y K h => by
  unfold Zec at h
  obtain ⟨v, h⟩ := Zby h
  obtain ⟨i, h⟩ := Zby h
  exact ⟨_, h⟩
theorem ZsY (R0 : List (List D)) (R1 : List (List D)) (R2 : List (List D)) (R3 : List (List D)) (R sp : List (List D)) (i v : Int) (N : X → Prop) (E : Exit → X → Prop) : (ZbJ Tryz.prog (hkA band bor [(156, sLR1)] []) Tryz.f185 0 [] [0, 1, 4, 7, 8] [] (Zec R0 R1 R2 R3 R sp) (Zec R0 R1 R2 R3 R sp) N E (ZdD R0 R1 R2 R3 R sp v i)) = (bif decide (i < @Nat.cast Int _ (List.length R)) then bif decide (0 ≤ i) && decide (i < @Nat.cast Int _ (List.length R)) then bif isJ [IntKind.i64, IntKind.i64, IntKind.i64] (List.drop (0) (List.getD R (Int.toNat i) [])) then bif noRd R0 R1 R2 R3 [hdJ (List.drop (0) (List.getD R (Int.toNat i) [])), hdJ (List.tail (List.drop (0) (List.getD R (Int.toNat i) []))), hdJ (List.tail (List.tail (List.drop (0) (List.getD R (Int.toNat i) []))))] then ZdD R0 R1 R2 R3 R sp i i = ZdD R0 R1 R2 R3 R sp i i ∧ E Exit.ret (ZdD R0 R1 R2 R3 R sp i i) else ZdD R0 R1 R2 R3 R sp v (IntKind.wrap IntKind.i64 (i + 1)) = ZdD R0 R1 R2 R3 R sp v (IntKind.wrap IntKind.i64 (i + 1)) ∧ N (ZdD R0 R1 R2 R3 R sp v (IntKind.wrap IntKind.i64 (i + 1))) else False else False else ZdD R0 R1 R2 R3 R sp v i = ZdD R0 R1 R2 R3 R sp v i ∧ E (Exit.exit (0)) (ZdD R0 R1 R2 R3 R sp v i)) := by kernel_rfl
def ZqX (R0 : List (List D)) (R1 : List (List D)) (R2 : List (List D)) (R3 : List (List D)) (l : List (List Int)) (sp : List (List D)) : LSum := ZcU [0, 1, 4, 7, 8] [] (fun i => ZdD R0 R1 R2 R3 (mZ l) sp 0 i) (fun i => ZdD R0 R1 R2 R3 (mZ l) sp i i) l.length (fun i => noRd R0 R1 R2 R3 (l.getD i [])) .ret (.exit 0)
theorem Zux (R0 : List (List D)) (R1 : List (List D)) (R2 : List (List D)) (R3 : List (List D)) (l : List (List Int)) (sp : List (List D)) (K : DV → Prop) : (askL Tryz.prog [] [(2, ZqX R0 R1 R2 R3 l sp)] Tryz.f185 [dS 3 (mZ l) sp, .c (.f 156 [] [.p 0 [.f 108 [.f 4294967295 [] [.p 0 [.s 0 3 R0 [], .s 0 3 R1 [], .s 0 3 R2 [], .s 0 3 R3 []] 0]] []] 0])] K) = (ZdD R0 R1 R2 R3 (mZ l) sp (0) (0) = ZdD R0 R1 R2 R3 (mZ l) sp (0) (0) ∧ (∀ (i : Nat), firstAt (fun i => noRd R0 R1 R2 R3 (List.getD l i [])) (List.length l) i → K (DV.c (D.v (Value.int IntKind.i64 (@Nat.cast Int _ i))))) ∧ (noneTo (fun i => noRd R0 R1 R2 R3 (List.getD l i [])) (List.length l) → K (DV.c (D.v (Value.int IntKind.i64 (-1)))))) := by kernel_rfl
theorem ZuD (R0 : List (List D)) (R1 : List (List D)) (R2 : List (List D)) (R3 : List (List D)) {l : List (List Int)} {sp : List (List D)} (hw : wid 3 l) (hn : l.length ≤ 9223372036854775807) (Q : Exit → X → Prop) (x : X) (h : ZqX R0 R1 R2 R3 l sp Q x) : XWP Tryz.prog (.loop (Zan Tryz.f185 0)) Q x := by
  refine ZbT (H := hkA band bor [(156, sLR1)] []) (sw := []) (V := Zec R0 R1 R2 R3 (mZ l) sp) (VE := Zec R0 R1 R2 R3 (mZ l) sp) (ZaI (.cons oLR1 .nil)) mixed (Zah rfl) (ZgY R0 R1 R2 R3 (mZ l) sp) (ZgY R0 R1 R2 R3 (mZ l) sp) _ _ _ _ _ _ (fun i hl N E h1 h2 => ?_) (fun N E h1 => ?_) Q x h
  · rw [ZsY]
    have wi : IntKind.wrap .i64 ((i : Int) + 1) = ((i + 1 : Nat) : Int) := Zat (n := 1) (by omega)
    have hj1 : isJ [IntKind.i64, IntKind.i64, IntKind.i64] ((mZ l).getD i []) = true := Zav (j := 0) (n := 3) hw hl (by omega)
    simp only [Zaf, Int.ofNat_lt, hl, decide_true, cond_true, Int.natCast_nonneg, Bool.and_self, Int.toNat_natCast, ZaG, ZaF, Zbu, hj1, List.drop_zero, ZaB, true_and, wi]
    have e : noRd R0 R1 R2 R3 (l.getD i []) = noRd R0 R1 R2 R3 [(l.getD i []).getD 0 0, (l.getD i []).getD 1 0, (l.getD i []).getD 2 0] := rfl
    cases ho : noRd R0 R1 R2 R3 (l.getD i []) with
    | false => rw [e] at ho; rw [ho]; exact h2 (by rw [e]; exact ho)
    | true => rw [e] at ho; rw [ho]; exact h1 (by rw [e]; exact ho)
  · rw [ZsY]
    simp only [Zaf, Int.ofNat_lt, Nat.lt_irrefl, decide_false, cond_false, true_and]
    exact h1
def Zrg : Spec := fun ds Q => match ds with | [.c (.s 0 3 R sp), .c (.f 156 [] [.p 0 [.f 108 [.f 4294967295 [] [.p 0 [.s 0 3 R0 [], .s 0 3 R1 [], .s 0 3 R2 [], .s 0 3 R3 []] 0]] []] 0])] => cond (okZ 3 R) (Q (I (match (toZ R).findIdx? (noRd R0 R1 R2 R3) with | some i => (i : Int) | none => -1))) False | _ => False
theorem ZtK : Zad Tryz.prog 185 Zrg := o_of Tryz.func185 (by kernel_rfl) rfl fun ds Q h => by
  unfold Zrg at h; split at h
  · rename_i R sp R0 R1 R2 R3
    obtain ⟨h1, h2⟩ := Zae h
    obtain ⟨e1, w1, n1⟩ := Zag h1
    rw [e1]
    rw [← Zau R] at n1
    generalize toZ R = l at *
    refine ⟨_, ZaK (l := []) (m := [(2, ZqX R0 R1 R2 R3 l sp)]) .nil mixed (ZbK rfl (by kernel_rfl) (ZuD R0 R1 R2 R3 w1 n1)) Tryz.func185 rfl rfl rfl ?_, rfl, rfl, h2⟩
    rw [Zux]
    refine ⟨rfl, fun i hi => ?_, fun hn => ?_⟩
    · rw [hi.find]
    · rw [hn.find]
  · exact h.elim
theorem Zug (R0 : List (List D)) (R1 : List (List D)) (R2 : List (List D)) (R3 : List (List D)) (R sp : List (List D)) (K : DV → Prop) : (ask Tryz.prog [(185, Zrg)] Tryz.f154 [dS 3 R sp, .c (.f 156 [] [.p 0 [.f 108 [.f 4294967295 [] [.p 0 [.s 0 3 R0 [], .s 0 3 R1 [], .s 0 3 R2 [], .s 0 3 R3 []] 0]] []] 0])] K) = (bif okZ (3) R then K (DV.c (D.v (Value.bool (decide ((match List.findIdx? (noRd R0 R1 R2 R3) (toZ R) with | some i => @Nat.cast Int _ i | none => -1) ≥ 0))))) else False) := by kernel_rfl
def ZqT : Spec := fun ds Q => match ds with | [.c (.s 0 3 R sp), .c (.f 156 [] [.p 0 [.f 108 [.f 4294967295 [] [.p 0 [.s 0 3 R0 [], .s 0 3 R1 [], .s 0 3 R2 [], .s 0 3 R3 []] 0]] []] 0])] => cond (okZ 3 R) (Q (B ((toZ R).any (noRd R0 R1 R2 R3)))) False | _ => False
theorem ZuP : Zad Tryz.prog 154 ZqT := o_of Tryz.func154 (by kernel_rfl) rfl fun ds Q h => by
  unfold ZqT at h; split at h
  · obtain ⟨h1, h2⟩ := Zae h
    refine ⟨_, Zaj (.cons ZtK .nil) mixed Tryz.func154 rfl rfl rfl ?_, rfl, rfl, h2⟩
    rw [Zug, h1, Zd0]; rfl
  · exact h.elim
theorem ZsW (R : List (List D)) (R0 R1 R2 R3 : List (List D)) (K : DV → Prop) : (ask Tryz.prog [(154, ZqT)] Tryz.f107 [.c (.s 0 3 R []), .c (.f 108 [.f 4294967295 [] [.p 0 (wsL R0 R1 R2 R3) 0]] [])] K) = (bif okZ (3) R then K (DV.c (D.v (Value.bool !List.any (toZ R) (noRd R0 R1 R2 R3)))) else False) := by kernel_rfl
def ZmK : Spec := fun ds Q => match ds with | [.c d, .c e] => cond d.isOwn False (ZbV 3 d fun R => Zfj 108 e fun R0 R1 R2 R3 => cond (okZ 3 R) (Q (B (!(toZ R).any (noRd R0 R1 R2 R3)))) False) | _ => False
theorem ZsS : Zad Tryz.prog 107 ZmK := o_al Tryz.func107 (by kernel_rfl) rfl fun ds Q h => by
  unfold ZmK at h; split at h
  · rename_i d e
    cases hd : d.isOwn with
    | true => rw [hd] at h; exact h.elim
    | false =>
      rw [hd] at h
      obtain ⟨R, h, r1⟩ := Zaq h
      obtain ⟨R0, R1, R2, R3, h, r2, e2⟩ := Zb4 (by decide) h
      obtain ⟨h1, h2⟩ := Zae h
      refine ⟨_, _, .cons (.c r1 hd rfl) (.cons (.c r2 e2 rfl) .nil), Zaj (.cons ZuP .nil) mixed Tryz.func107 rfl rfl rfl ?_, rfl, rfl, h2⟩
      rw [ZsW, h1]; rfl
  · exact h.elim
def noWr (R0 R1 R2 R3 : List (List D)) (r : List Int) : Bool := !thW R0 R1 R2 R3 (r.getD 0 0) (r.getD 1 0)
theorem eLW (a b c : Int) (R0 R1 R2 R3 : List (List D)) (K : DV → Prop) : (ask Tryz.prog [(157, sThr)] Tryz.f110 [.agg [.p 0 [.s 0 3 R0 [], .s 0 3 R1 [], .s 0 3 R2 [], .s 0 3 R3 []] 0], .agg [vi a, vi b, vi c]] K) = (K (DV.c (D.v (Value.bool (thr (List.length R0) (List.length R1) (List.length R2) (List.length R3) a b))))) := by kernel_rfl
def sLW : Spec := fun ds Q => match ds with | [.agg [.p 0 [.s 0 3 R0 [], .s 0 3 R1 [], .s 0 3 R2 [], .s 0 3 R3 []] 0], .agg [.v (.int .i64 a), .v (.int .i64 b), .v (.int .i64 c)]] => Q (B (!noWr R0 R1 R2 R3 [a, b, c])) | _ => False
theorem oLW : Zad Tryz.prog 110 sLW := o_of Tryz.func110 (by kernel_rfl) rfl fun ds Q h => by
  unfold sLW at h; split at h
  · rename_i R0 R1 R2 R3 a b c
    refine ⟨_, Zaj ((.cons oThr .nil)) mixed Tryz.func110 rfl rfl rfl ?_, rfl, rfl, h⟩
    rw [eLW]; unfold noWr thW; simp only [List.getD_cons_zero, List.getD_cons_succ, Bool.not_not]
    try (cases isRW a <;> simp)
  · exact h.elim
theorem eLW1 (a b c : Int) (R0 R1 R2 R3 : List (List D)) (K : DV → Prop) : (ask Tryz.prog [(110, sLW)] Tryz.f159 [.agg [vi a, vi b, vi c], .c (.p 0 [.f 110 [.f 4294967295 [] [.p 0 [.s 0 3 R0 [], .s 0 3 R1 [], .s 0 3 R2 [], .s 0 3 R3 []] 0]] []] 0)] K) = (K (DV.c (D.v (Value.bool !!noWr R0 R1 R2 R3 [a, b, c])))) := by kernel_rfl
def sLW1 : Spec := fun ds Q => match ds with | [.agg [.v (.int .i64 a), .v (.int .i64 b), .v (.int .i64 c)], .c (.p 0 [.f 110 [.f 4294967295 [] [.p 0 [.s 0 3 R0 [], .s 0 3 R1 [], .s 0 3 R2 [], .s 0 3 R3 []] 0]] []] 0)] => Q (B (noWr R0 R1 R2 R3 [a, b, c])) | _ => False
theorem oLW1 : Zad Tryz.prog 159 sLW1 := o_of Tryz.func159 (by kernel_rfl) rfl fun ds Q h => by
  unfold sLW1 at h; split at h
  · exact ⟨_, Zaj (.cons oLW .nil) mixed Tryz.func159 rfl rfl rfl (by rw [eLW1, Bool.not_not]), rfl, rfl, h⟩
  · exact h.elim
def Zdw (R0 : List (List D)) (R1 : List (List D)) (R2 : List (List D)) (R3 : List (List D)) (R : List (List D)) (sp : List (List D)) (v : Int) (i : Int) : X := ⟨mkT 19 [(0, aS 3 R sp), (1, .c (.d (.f 159 [] [.p 0 [.f 110 [.f 4294967295 [] [.p 0 [.s 0 3 R0 [], .s 0 3 R1 [], .s 0 3 R2 [], .s 0 3 R3 []] 0]] []] 0]))), (4, ai v), (7, ai R.length), (8, ai i)], [], [], []⟩
def Zev (R0 : List (List D)) (R1 : List (List D)) (R2 : List (List D)) (R3 : List (List D)) (R : List (List D)) (sp : List (List D)) : Vw := fun y K => wI y 4 fun v => wI y 8 fun i => K (Zdw R0 R1 R2 R3 R sp v i)
theorem ZgR (R0 : List (List D)) (R1 : List (List D)) (R2 : List (List D)) (R3 : List (List D)) (R : List (List D)) (sp : List (List D)) : VwOK (Zev R0 R1 R2 R3 R sp) := fun y K h => by
  unfold Zev at h
  obtain ⟨v, h⟩ := Zby h
  obtain ⟨i, h⟩ := Zby h
  exact ⟨_, h⟩
theorem ZsH (R0 : List (List D)) (R1 : List (List D)) (R2 : List (List D)) (R3 : List (List D)) (R sp : List (List D)) (i v : Int) (N : X → Prop) (E : Exit → X → Prop) : (ZbJ Tryz.prog (hkA band bor [(159, sLW1)] []) Tryz.f187 0 [] [0, 1, 4, 7, 8] [] (Zev R0 R1 R2 R3 R sp) (Zev R0 R1 R2 R3 R sp) N E (Zdw R0 R1 R2 R3 R sp v i)) = (bif decide (i < @Nat.cast Int _ (List.length R)) then bif decide (0 ≤ i) && decide (i < @Nat.cast Int _ (List.length R)) then bif isJ [IntKind.i64, IntKind.i64, IntKind.i64] (List.drop (0) (List.getD R (Int.toNat i) [])) then bif noWr R0 R1 R2 R3 [hdJ (List.drop (0) (List.getD R (Int.toNat i) [])), hdJ (List.tail (List.drop (0) (List.getD R (Int.toNat i) []))), hdJ (List.tail (List.tail (List.drop (0) (List.getD R (Int.toNat i) []))))] then Zdw R0 R1 R2 R3 R sp i i = Zdw R0 R1 R2 R3 R sp i i ∧ E Exit.ret (Zdw R0 R1 R2 R3 R sp i i) else Zdw R0 R1 R2 R3 R sp v (IntKind.wrap IntKind.i64 (i + 1)) = Zdw R0 R1 R2 R3 R sp v (IntKind.wrap IntKind.i64 (i + 1)) ∧ N (Zdw R0 R1 R2 R3 R sp v (IntKind.wrap IntKind.i64 (i + 1))) else False else False else Zdw R0 R1 R2 R3 R sp v i = Zdw R0 R1 R2 R3 R sp v i ∧ E (Exit.exit (0)) (Zdw R0 R1 R2 R3 R sp v i)) := by kernel_rfl
def Zrm (R0 : List (List D)) (R1 : List (List D)) (R2 : List (List D)) (R3 : List (List D)) (l : List (List Int)) (sp : List (List D)) : LSum := ZcU [0, 1, 4, 7, 8] [] (fun i => Zdw R0 R1 R2 R3 (mZ l) sp 0 i) (fun i => Zdw R0 R1 R2 R3 (mZ l) sp i i) l.length (fun i => noWr R0 R1 R2 R3 (l.getD i [])) .ret (.exit 0)
theorem Zt8 (R0 : List (List D)) (R1 : List (List D)) (R2 : List (List D)) (R3 : List (List D)) (l : List (List Int)) (sp : List (List D)) (K : DV → Prop) : (askL Tryz.prog [] [(2, Zrm R0 R1 R2 R3 l sp)] Tryz.f187 [dS 3 (mZ l) sp, .c (.f 159 [] [.p 0 [.f 110 [.f 4294967295 [] [.p 0 [.s 0 3 R0 [], .s 0 3 R1 [], .s 0 3 R2 [], .s 0 3 R3 []] 0]] []] 0])] K) = (Zdw R0 R1 R2 R3 (mZ l) sp (0) (0) = Zdw R0 R1 R2 R3 (mZ l) sp (0) (0) ∧ (∀ (i : Nat), firstAt (fun i => noWr R0 R1 R2 R3 (List.getD l i [])) (List.length l) i → K (DV.c (D.v (Value.int IntKind.i64 (@Nat.cast Int _ i))))) ∧ (noneTo (fun i => noWr R0 R1 R2 R3 (List.getD l i [])) (List.length l) → K (DV.c (D.v (Value.int IntKind.i64 (-1)))))) := by kernel_rfl
theorem Zuu (R0 : List (List D)) (R1 : List (List D)) (R2 : List (List D)) (R3 : List (List D)) {l : List (List Int)} {sp : List (List D)} (hw : wid 3 l) (hn : l.length ≤ 9223372036854775807) (Q : Exit → X → Prop) (x : X) (h : Zrm R0 R1 R2 R3 l sp Q x) : XWP Tryz.prog (.loop (Zan Tryz.f187 0)) Q x := by
  refine ZbT (H := hkA band bor [(159, sLW1)] []) (sw := []) (V := Zev R0 R1 R2 R3 (mZ l) sp) (VE := Zev R0 R1 R2 R3 (mZ l) sp) (ZaI (.cons oLW1 .nil)) mixed (Zah rfl) (ZgR R0 R1 R2 R3 (mZ l) sp) (ZgR R0 R1 R2 R3 (mZ l) sp) _ _ _ _ _ _ (fun i hl N E h1 h2 => ?_) (fun N E h1 => ?_) Q x h
  · rw [ZsH]
    have wi : IntKind.wrap .i64 ((i : Int) + 1) = ((i + 1 : Nat) : Int) := Zat (n := 1) (by omega)
    have hj1 : isJ [IntKind.i64, IntKind.i64, IntKind.i64] ((mZ l).getD i []) = true := Zav (j := 0) (n := 3) hw hl (by omega)
    simp only [Zaf, Int.ofNat_lt, hl, decide_true, cond_true, Int.natCast_nonneg, Bool.and_self, Int.toNat_natCast, ZaG, ZaF, Zbu, hj1, List.drop_zero, ZaB, true_and, wi]
    have e : noWr R0 R1 R2 R3 (l.getD i []) = noWr R0 R1 R2 R3 [(l.getD i []).getD 0 0, (l.getD i []).getD 1 0, (l.getD i []).getD 2 0] := rfl
    cases ho : noWr R0 R1 R2 R3 (l.getD i []) with
    | false => rw [e] at ho; rw [ho]; exact h2 (by rw [e]; exact ho)
    | true => rw [e] at ho; rw [ho]; exact h1 (by rw [e]; exact ho)
  · rw [ZsH]
    simp only [Zaf, Int.ofNat_lt, Nat.lt_irrefl, decide_false, cond_false, true_and]
    exact h1
def ZqB : Spec := fun ds Q => match ds with | [.c (.s 0 3 R sp), .c (.f 159 [] [.p 0 [.f 110 [.f 4294967295 [] [.p 0 [.s 0 3 R0 [], .s 0 3 R1 [], .s 0 3 R2 [], .s 0 3 R3 []] 0]] []] 0])] => cond (okZ 3 R) (Q (I (match (toZ R).findIdx? (noWr R0 R1 R2 R3) with | some i => (i : Int) | none => -1))) False | _ => False
theorem Zut : Zad Tryz.prog 187 ZqB := o_of Tryz.func187 (by kernel_rfl) rfl fun ds Q h => by
  unfold ZqB at h; split at h
  · rename_i R sp R0 R1 R2 R3
    obtain ⟨h1, h2⟩ := Zae h
    obtain ⟨e1, w1, n1⟩ := Zag h1
    rw [e1]
    rw [← Zau R] at n1
    generalize toZ R = l at *
    refine ⟨_, ZaK (l := []) (m := [(2, Zrm R0 R1 R2 R3 l sp)]) .nil mixed (ZbK rfl (by kernel_rfl) (Zuu R0 R1 R2 R3 w1 n1)) Tryz.func187 rfl rfl rfl ?_, rfl, rfl, h2⟩
    rw [Zt8]
    refine ⟨rfl, fun i hi => ?_, fun hn => ?_⟩
    · rw [hi.find]
    · rw [hn.find]
  · exact h.elim
theorem Zur (R0 : List (List D)) (R1 : List (List D)) (R2 : List (List D)) (R3 : List (List D)) (R sp : List (List D)) (K : DV → Prop) : (ask Tryz.prog [(187, ZqB)] Tryz.f158 [dS 3 R sp, .c (.f 159 [] [.p 0 [.f 110 [.f 4294967295 [] [.p 0 [.s 0 3 R0 [], .s 0 3 R1 [], .s 0 3 R2 [], .s 0 3 R3 []] 0]] []] 0])] K) = (bif okZ (3) R then K (DV.c (D.v (Value.bool (decide ((match List.findIdx? (noWr R0 R1 R2 R3) (toZ R) with | some i => @Nat.cast Int _ i | none => -1) ≥ 0))))) else False) := by kernel_rfl
def Zqd : Spec := fun ds Q => match ds with | [.c (.s 0 3 R sp), .c (.f 159 [] [.p 0 [.f 110 [.f 4294967295 [] [.p 0 [.s 0 3 R0 [], .s 0 3 R1 [], .s 0 3 R2 [], .s 0 3 R3 []] 0]] []] 0])] => cond (okZ 3 R) (Q (B ((toZ R).any (noWr R0 R1 R2 R3)))) False | _ => False
theorem ZuZ : Zad Tryz.prog 158 Zqd := o_of Tryz.func158 (by kernel_rfl) rfl fun ds Q h => by
  unfold Zqd at h; split at h
  · obtain ⟨h1, h2⟩ := Zae h
    refine ⟨_, Zaj (.cons Zut .nil) mixed Tryz.func158 rfl rfl rfl ?_, rfl, rfl, h2⟩
    rw [Zur, h1, Zd0]; rfl
  · exact h.elim
theorem Zsk (R : List (List D)) (R0 R1 R2 R3 : List (List D)) (K : DV → Prop) : (ask Tryz.prog [(158, Zqd)] Tryz.f109 [.c (.s 0 3 R []), .c (.f 110 [.f 4294967295 [] [.p 0 (wsL R0 R1 R2 R3) 0]] [])] K) = (bif okZ (3) R then K (DV.c (D.v (Value.bool !List.any (toZ R) (noWr R0 R1 R2 R3)))) else False) := by kernel_rfl
def Znm : Spec := fun ds Q => match ds with | [.c d, .c e] => cond d.isOwn False (ZbV 3 d fun R => Zfj 110 e fun R0 R1 R2 R3 => cond (okZ 3 R) (Q (B (!(toZ R).any (noWr R0 R1 R2 R3)))) False) | _ => False
theorem Zs5 : Zad Tryz.prog 109 Znm := o_al Tryz.func109 (by kernel_rfl) rfl fun ds Q h => by
  unfold Znm at h; split at h
  · rename_i d e
    cases hd : d.isOwn with
    | true => rw [hd] at h; exact h.elim
    | false =>
      rw [hd] at h
      obtain ⟨R, h, r1⟩ := Zaq h
      obtain ⟨R0, R1, R2, R3, h, r2, e2⟩ := Zb4 (by decide) h
      obtain ⟨h1, h2⟩ := Zae h
      refine ⟨_, _, .cons (.c r1 hd rfl) (.cons (.c r2 e2 rfl) .nil), Zaj (.cons ZuZ .nil) mixed Tryz.func109 rfl rfl rfl ?_, rfl, rfl, h2⟩
      rw [Zsk, h1]; rfl
  · exact h.elim
def noIn (R0 R1 R2 R3 : List (List D)) (r : List Int) : Bool := isRW (r.getD 0 0) && !thW R0 R1 R2 R3 (r.getD 2 0) (r.getD 3 0)
theorem eLI (a b c d : Int) (R0 R1 R2 R3 : List (List D)) (K : DV → Prop) : (ask Tryz.prog [(162, sIWd), (157, sThr)] Tryz.f112 [.agg [.p 0 [.s 0 3 R0 [], .s 0 3 R1 [], .s 0 3 R2 [], .s 0 3 R3 []] 0], .agg [vi a, vi b, vi c, vi d]] K) = (bif !isRW a then K (DV.c (D.v (Value.bool true))) else K (DV.c (D.v (Value.bool (thr (List.length R0) (List.length R1) (List.length R2) (List.length R3) c d))))) := by kernel_rfl
def sLI : Spec := fun ds Q => match ds with | [.agg [.p 0 [.s 0 3 R0 [], .s 0 3 R1 [], .s 0 3 R2 [], .s 0 3 R3 []] 0], .agg [.v (.int .i64 a), .v (.int .i64 b), .v (.int .i64 c), .v (.int .i64 d)]] => Q (B (!noIn R0 R1 R2 R3 [a, b, c, d])) | _ => False
theorem oLI : Zad Tryz.prog 112 sLI := o_of Tryz.func112 (by kernel_rfl) rfl fun ds Q h => by
  unfold sLI at h; split at h
  · rename_i R0 R1 R2 R3 a b c d
    refine ⟨_, Zaj (.cons oIWd (.cons oThr .nil)) mixed Tryz.func112 rfl rfl rfl ?_, rfl, rfl, h⟩
    rw [eLI]; unfold noIn thW; simp only [List.getD_cons_zero, List.getD_cons_succ, Bool.not_not]
    try (cases isRW a <;> simp)
  · exact h.elim
theorem eLI1 (a b c d : Int) (R0 R1 R2 R3 : List (List D)) (K : DV → Prop) : (ask Tryz.prog [(112, sLI)] Tryz.f161 [.agg [vi a, vi b, vi c, vi d], .c (.p 0 [.f 112 [.f 4294967295 [] [.p 0 [.s 0 3 R0 [], .s 0 3 R1 [], .s 0 3 R2 [], .s 0 3 R3 []] 0]] []] 0)] K) = (K (DV.c (D.v (Value.bool !!noIn R0 R1 R2 R3 [a, b, c, d])))) := by kernel_rfl
def sLI1 : Spec := fun ds Q => match ds with | [.agg [.v (.int .i64 a), .v (.int .i64 b), .v (.int .i64 c), .v (.int .i64 d)], .c (.p 0 [.f 112 [.f 4294967295 [] [.p 0 [.s 0 3 R0 [], .s 0 3 R1 [], .s 0 3 R2 [], .s 0 3 R3 []] 0]] []] 0)] => Q (B (noIn R0 R1 R2 R3 [a, b, c, d])) | _ => False
theorem oLI1 : Zad Tryz.prog 161 sLI1 := o_of Tryz.func161 (by kernel_rfl) rfl fun ds Q h => by
  unfold sLI1 at h; split at h
  · exact ⟨_, Zaj (.cons oLI .nil) mixed Tryz.func161 rfl rfl rfl (by rw [eLI1, Bool.not_not]), rfl, rfl, h⟩
  · exact h.elim
def ZdA (R0 : List (List D)) (R1 : List (List D)) (R2 : List (List D)) (R3 : List (List D)) (R : List (List D)) (sp : List (List D)) (v : Int) (i : Int) : X := ⟨mkT 19 [(0, aS 4 R sp), (1, .c (.d (.f 161 [] [.p 0 [.f 112 [.f 4294967295 [] [.p 0 [.s 0 3 R0 [], .s 0 3 R1 [], .s 0 3 R2 [], .s 0 3 R3 []] 0]] []] 0]))), (4, ai v), (7, ai R.length), (8, ai i)], [], [], []⟩
def ZeC (R0 : List (List D)) (R1 : List (List D)) (R2 : List (List D)) (R3 : List (List D)) (R : List (List D)) (sp : List (List D)) : Vw := fun y K => wI y 4 fun v => wI y 8 fun i => K (ZdA R0 R1 R2 R3 R sp v i)
theorem ZgI (R0 : List (List D)) (R1 : List (List D)) (R2 : List (List D)) (R3 : List (List D)) (R : List (List D)) (sp : List (List D)) : VwOK (ZeC R0 R1 R2 R3 R sp) := fun y K h => by
  unfold ZeC at h
  obtain ⟨v, h⟩ := Zby h
  obtain ⟨i, h⟩ := Zby h
  exact ⟨_, h⟩
theorem ZrT (R0 : List (List D)) (R1 : List (List D)) (R2 : List (List D)) (R3 : List (List D)) (R sp : List (List D)) (i v : Int) (N : X → Prop) (E : Exit → X → Prop) : (ZbJ Tryz.prog (hkA band bor [(161, sLI1)] []) Tryz.f188 0 [] [0, 1, 4, 7, 8] [] (ZeC R0 R1 R2 R3 R sp) (ZeC R0 R1 R2 R3 R sp) N E (ZdA R0 R1 R2 R3 R sp v i)) = (bif decide (i < @Nat.cast Int _ (List.length R)) then bif decide (0 ≤ i) && decide (i < @Nat.cast Int _ (List.length R)) then bif isJ [IntKind.i64, IntKind.i64, IntKind.i64, IntKind.i64] (List.drop (0) (List.getD R (Int.toNat i) [])) then bif noIn R0 R1 R2 R3 [hdJ (List.drop (0) (List.getD R (Int.toNat i) [])), hdJ (List.tail (List.drop (0) (List.getD R (Int.toNat i) []))), hdJ (List.tail (List.tail (List.drop (0) (List.getD R (Int.toNat i) [])))), hdJ (List.tail (List.tail (List.tail (List.drop (0) (List.getD R (Int.toNat i) [])))))] then ZdA R0 R1 R2 R3 R sp i i = ZdA R0 R1 R2 R3 R sp i i ∧ E Exit.ret (ZdA R0 R1 R2 R3 R sp i i) else ZdA R0 R1 R2 R3 R sp v (IntKind.wrap IntKind.i64 (i + 1)) = ZdA R0 R1 R2 R3 R sp v (IntKind.wrap IntKind.i64 (i + 1)) ∧ N (ZdA R0 R1 R2 R3 R sp v (IntKind.wrap IntKind.i64 (i + 1))) else False else False else ZdA R0 R1 R2 R3 R sp v i = ZdA R0 R1 R2 R3 R sp v i ∧ E (Exit.exit (0)) (ZdA R0 R1 R2 R3 R sp v i)) := by kernel_rfl
def Zru (R0 : List (List D)) (R1 : List (List D)) (R2 : List (List D)) (R3 : List (List D)) (l : List (List Int)) (sp : List (List D)) : LSum := ZcU [0, 1, 4, 7, 8] [] (fun i => ZdA R0 R1 R2 R3 (mZ l) sp 0 i) (fun i => ZdA R0 R1 R2 R3 (mZ l) sp i i) l.length (fun i => noIn R0 R1 R2 R3 (l.getD i [])) .ret (.exit 0)
theorem ZtV (R0 : List (List D)) (R1 : List (List D)) (R2 : List (List D)) (R3 : List (List D)) (l : List (List Int)) (sp : List (List D)) (K : DV → Prop) : (askL Tryz.prog [] [(2, Zru R0 R1 R2 R3 l sp)] Tryz.f188 [dS 4 (mZ l) sp, .c (.f 161 [] [.p 0 [.f 112 [.f 4294967295 [] [.p 0 [.s 0 3 R0 [], .s 0 3 R1 [], .s 0 3 R2 [], .s 0 3 R3 []] 0]] []] 0])] K) = (ZdA R0 R1 R2 R3 (mZ l) sp (0) (0) = ZdA R0 R1 R2 R3 (mZ l) sp (0) (0) ∧ (∀ (i : Nat), firstAt (fun i => noIn R0 R1 R2 R3 (List.getD l i [])) (List.length l) i → K (DV.c (D.v (Value.int IntKind.i64 (@Nat.cast Int _ i))))) ∧ (noneTo (fun i => noIn R0 R1 R2 R3 (List.getD l i [])) (List.length l) → K (DV.c (D.v (Value.int IntKind.i64 (-1)))))) := by kernel_rfl
theorem Zus (R0 : List (List D)) (R1 : List (List D)) (R2 : List (List D)) (R3 : List (List D)) {l : List (List Int)} {sp : List (List D)} (hw : wid 4 l) (hn : l.length ≤ 9223372036854775807) (Q : Exit → X → Prop) (x : X) (h : Zru R0 R1 R2 R3 l sp Q x) : XWP Tryz.prog (.loop (Zan Tryz.f188 0)) Q x := by
  refine ZbT (H := hkA band bor [(161, sLI1)] []) (sw := []) (V := ZeC R0 R1 R2 R3 (mZ l) sp) (VE := ZeC R0 R1 R2 R3 (mZ l) sp) (ZaI (.cons oLI1 .nil)) mixed (Zah rfl) (ZgI R0 R1 R2 R3 (mZ l) sp) (ZgI R0 R1 R2 R3 (mZ l) sp) _ _ _ _ _ _ (fun i hl N E h1 h2 => ?_) (fun N E h1 => ?_) Q x h
  · rw [ZrT]
    have wi : IntKind.wrap .i64 ((i : Int) + 1) = ((i + 1 : Nat) : Int) := Zat (n := 1) (by omega)
    have hj1 : isJ [IntKind.i64, IntKind.i64, IntKind.i64, IntKind.i64] ((mZ l).getD i []) = true := Zav (j := 0) (n := 4) hw hl (by omega)
    simp only [Zaf, Int.ofNat_lt, hl, decide_true, cond_true, Int.natCast_nonneg, Bool.and_self, Int.toNat_natCast, ZaG, ZaF, Zbu, hj1, List.drop_zero, ZaB, true_and, wi]
    have e : noIn R0 R1 R2 R3 (l.getD i []) = noIn R0 R1 R2 R3 [(l.getD i []).getD 0 0, (l.getD i []).getD 1 0, (l.getD i []).getD 2 0, (l.getD i []).getD 3 0] := rfl
    cases ho : noIn R0 R1 R2 R3 (l.getD i []) with
    | false => rw [e] at ho; rw [ho]; exact h2 (by rw [e]; exact ho)
    | true => rw [e] at ho; rw [ho]; exact h1 (by rw [e]; exact ho)
  · rw [ZrT]
    simp only [Zaf, Int.ofNat_lt, Nat.lt_irrefl, decide_false, cond_false, true_and]
    exact h1
def Zqh : Spec := fun ds Q => match ds with | [.c (.s 0 4 R sp), .c (.f 161 [] [.p 0 [.f 112 [.f 4294967295 [] [.p 0 [.s 0 3 R0 [], .s 0 3 R1 [], .s 0 3 R2 [], .s 0 3 R3 []] 0]] []] 0])] => cond (okZ 4 R) (Q (I (match (toZ R).findIdx? (noIn R0 R1 R2 R3) with | some i => (i : Int) | none => -1))) False | _ => False
theorem Zua : Zad Tryz.prog 188 Zqh := o_of Tryz.func188 (by kernel_rfl) rfl fun ds Q h => by
  unfold Zqh at h; split at h
  · rename_i R sp R0 R1 R2 R3
    obtain ⟨h1, h2⟩ := Zae h
    obtain ⟨e1, w1, n1⟩ := Zag h1
    rw [e1]
    rw [← Zau R] at n1
    generalize toZ R = l at *
    refine ⟨_, ZaK (l := []) (m := [(2, Zru R0 R1 R2 R3 l sp)]) .nil mixed (ZbK rfl (by kernel_rfl) (Zus R0 R1 R2 R3 w1 n1)) Tryz.func188 rfl rfl rfl ?_, rfl, rfl, h2⟩
    rw [ZtV]
    refine ⟨rfl, fun i hi => ?_, fun hn => ?_⟩
    · rw [hi.find]
    · rw [hn.find]
  · exact h.elim
theorem Zu0 (R0 : List (List D)) (R1 : List (List D)) (R2 : List (List D)) (R3 : List (List D)) (R sp : List (List D)) (K : DV → Prop) : (ask Tryz.prog [(188, Zqh)] Tryz.f160 [dS 4 R sp, .c (.f 161 [] [.p 0 [.f 112 [.f 4294967295 [] [.p 0 [.s 0 3 R0 [], .s 0 3 R1 [], .s 0 3 R2 [], .s 0 3 R3 []] 0]] []] 0])] K) = (bif okZ (4) R then K (DV.c (D.v (Value.bool (decide ((match List.findIdx? (noIn R0 R1 R2 R3) (toZ R) with | some i => @Nat.cast Int _ i | none => -1) ≥ 0))))) else False) := by kernel_rfl
def Zrh : Spec := fun ds Q => match ds with | [.c (.s 0 4 R sp), .c (.f 161 [] [.p 0 [.f 112 [.f 4294967295 [] [.p 0 [.s 0 3 R0 [], .s 0 3 R1 [], .s 0 3 R2 [], .s 0 3 R3 []] 0]] []] 0])] => cond (okZ 4 R) (Q (B ((toZ R).any (noIn R0 R1 R2 R3)))) False | _ => False
theorem Zt5 : Zad Tryz.prog 160 Zrh := o_of Tryz.func160 (by kernel_rfl) rfl fun ds Q h => by
  unfold Zrh at h; split at h
  · obtain ⟨h1, h2⟩ := Zae h
    refine ⟨_, Zaj (.cons Zua .nil) mixed Tryz.func160 rfl rfl rfl ?_, rfl, rfl, h2⟩
    rw [Zu0, h1, Zd0]; rfl
  · exact h.elim
theorem Ztc (R : List (List D)) (R0 R1 R2 R3 : List (List D)) (K : DV → Prop) : (ask Tryz.prog [(160, Zrh)] Tryz.f111 [.c (.s 0 4 R []), .c (.f 112 [.f 4294967295 [] [.p 0 (wsL R0 R1 R2 R3) 0]] [])] K) = (bif okZ (4) R then K (DV.c (D.v (Value.bool !List.any (toZ R) (noIn R0 R1 R2 R3)))) else False) := by kernel_rfl
def ZnM : Spec := fun ds Q => match ds with | [.c d, .c e] => cond d.isOwn False (ZbV 4 d fun R => Zfj 112 e fun R0 R1 R2 R3 => cond (okZ 4 R) (Q (B (!(toZ R).any (noIn R0 R1 R2 R3)))) False) | _ => False
theorem Zsy : Zad Tryz.prog 111 ZnM := o_al Tryz.func111 (by kernel_rfl) rfl fun ds Q h => by
  unfold ZnM at h; split at h
  · rename_i d e
    cases hd : d.isOwn with
    | true => rw [hd] at h; exact h.elim
    | false =>
      rw [hd] at h
      obtain ⟨R, h, r1⟩ := Zaq h
      obtain ⟨R0, R1, R2, R3, h, r2, e2⟩ := Zb4 (by decide) h
      obtain ⟨h1, h2⟩ := Zae h
      refine ⟨_, _, .cons (.c r1 hd rfl) (.cons (.c r2 e2 rfl) .nil), Zaj (.cons Zt5 .nil) mixed Tryz.func111 rfl rfl rfl ?_, rfl, rfl, h2⟩
      rw [Ztc, h1]; rfl
  · exact h.elim
theorem eLE (a b c d : Int) (K : DV → Prop) : (ask Tryz.prog [(64, sB lab)] Tryz.f63 [.agg [vi a, vi b, vi c, vi d]] K) = (K (DV.c (D.v (Value.bool (lab b))))) := by kernel_rfl
def sLE : Spec := fun ds Q => match ds with | [.agg [.v (.int .i64 a), .v (.int .i64 b), .v (.int .i64 c), .v (.int .i64 d)]] => Q (B (lab b)) | _ => False
theorem oLE : Zad Tryz.prog 63 sLE := o_of Tryz.func63 (by kernel_rfl) rfl fun ds Q h => by
  unfold sLE at h; split at h
  · exact ⟨_, Zaj (.cons oLab .nil) mixed Tryz.func63 rfl rfl rfl (by rw [eLE]), rfl, rfl, h⟩
  · exact h.elim
def noEv (r : List Int) : Bool := !lab (r.getD 1 0)
theorem eLE1 (a b c d : Int) (K : DV → Prop) : (ask Tryz.prog [(63, sLE)] Tryz.f117 [.agg [vi a, vi b, vi c, vi d], .c (.p 0 [.f 63 [] []] 0)] K) = (K (DV.c (D.v (Value.bool !lab b)))) := by kernel_rfl
def sLE1 : Spec := fun ds Q => match ds with | [.agg [.v (.int .i64 a), .v (.int .i64 b), .v (.int .i64 c), .v (.int .i64 d)], .c (.p 0 [.f 63 [] []] 0)] => Q (B (noEv [a, b, c, d])) | _ => False
theorem oLE1 : Zad Tryz.prog 117 sLE1 := o_of Tryz.func117 (by kernel_rfl) rfl fun ds Q h => by
  unfold sLE1 at h; split at h
  · exact ⟨_, Zaj (.cons oLE .nil) mixed Tryz.func117 rfl rfl rfl (by rw [eLE1]; rfl), rfl, rfl, h⟩
  · exact h.elim
def Zdr (R : List (List D)) (sp : List (List D)) (v : Int) (i : Int) : X := ⟨mkT 19 [(0, aS 4 R sp), (1, .c (.d (.f 117 [] [.p 0 [.f 63 [] []] 0]))), (4, ai v), (7, ai R.length), (8, ai i)], [], [], []⟩
def Zel (R : List (List D)) (sp : List (List D)) : Vw := fun y K => wI y 4 fun v => wI y 8 fun i => K (Zdr R sp v i)
theorem Zha (R : List (List D)) (sp : List (List D)) : VwOK (Zel R sp) := fun y K h => by
  unfold Zel at h
  obtain ⟨v, h⟩ := Zby h
  obtain ⟨i, h⟩ := Zby h
  exact ⟨_, h⟩
theorem Zs7  (R sp : List (List D)) (i v : Int) (N : X → Prop) (E : Exit → X → Prop) : (ZbJ Tryz.prog (hkA band bor [(117, sLE1)] []) Tryz.f163 0 [] [0, 1, 4, 7, 8] [] (Zel  R sp) (Zel  R sp) N E (Zdr  R sp v i)) = (bif decide (i < @Nat.cast Int _ (List.length R)) then bif decide (0 ≤ i) && decide (i < @Nat.cast Int _ (List.length R)) then bif isJ [IntKind.i64, IntKind.i64, IntKind.i64, IntKind.i64] (List.drop (0) (List.getD R (Int.toNat i) [])) then bif noEv [hdJ (List.drop (0) (List.getD R (Int.toNat i) [])), hdJ (List.tail (List.drop (0) (List.getD R (Int.toNat i) []))), hdJ (List.tail (List.tail (List.drop (0) (List.getD R (Int.toNat i) [])))), hdJ (List.tail (List.tail (List.tail (List.drop (0) (List.getD R (Int.toNat i) [])))))] then Zdr R sp i i = Zdr R sp i i ∧ E Exit.ret (Zdr R sp i i) else Zdr R sp v (IntKind.wrap IntKind.i64 (i + 1)) = Zdr R sp v (IntKind.wrap IntKind.i64 (i + 1)) ∧ N (Zdr R sp v (IntKind.wrap IntKind.i64 (i + 1))) else False else False else Zdr R sp v i = Zdr R sp v i ∧ E (Exit.exit (0)) (Zdr R sp v i)) := by kernel_rfl
def Zrp  (l : List (List Int)) (sp : List (List D)) : LSum := ZcU [0, 1, 4, 7, 8] [] (fun i => Zdr  (mZ l) sp 0 i) (fun i => Zdr  (mZ l) sp i i) l.length (fun i => noEv  (l.getD i [])) .ret (.exit 0)
theorem Zva  (l : List (List Int)) (sp : List (List D)) (K : DV → Prop) : (askL Tryz.prog [] [(2, Zrp  l sp)] Tryz.f163 [dS 4 (mZ l) sp, .c (.f 117 [] [.p 0 [.f 63 [] []] 0])] K) = (Zdr (mZ l) sp (0) (0) = Zdr (mZ l) sp (0) (0) ∧ (∀ (i : Nat), firstAt (fun i => noEv (List.getD l i [])) (List.length l) i → K (DV.c (D.v (Value.int IntKind.i64 (@Nat.cast Int _ i))))) ∧ (noneTo (fun i => noEv (List.getD l i [])) (List.length l) → K (DV.c (D.v (Value.int IntKind.i64 (-1)))))) := by kernel_rfl
theorem ZuO  {l : List (List Int)} {sp : List (List D)} (hw : wid 4 l) (hn : l.length ≤ 9223372036854775807) (Q : Exit → X → Prop) (x : X) (h : Zrp  l sp Q x) : XWP Tryz.prog (.loop (Zan Tryz.f163 0)) Q x := by
  refine ZbT (H := hkA band bor [(117, sLE1)] []) (sw := []) (V := Zel  (mZ l) sp) (VE := Zel  (mZ l) sp) (ZaI (.cons oLE1 .nil)) mixed (Zah rfl) (Zha  (mZ l) sp) (Zha  (mZ l) sp) _ _ _ _ _ _ (fun i hl N E h1 h2 => ?_) (fun N E h1 => ?_) Q x h
  · rw [Zs7]
    have wi : IntKind.wrap .i64 ((i : Int) + 1) = ((i + 1 : Nat) : Int) := Zat (n := 1) (by omega)
    have hj1 : isJ [IntKind.i64, IntKind.i64, IntKind.i64, IntKind.i64] ((mZ l).getD i []) = true := Zav (j := 0) (n := 4) hw hl (by omega)
    simp only [Zaf, Int.ofNat_lt, hl, decide_true, cond_true, Int.natCast_nonneg, Bool.and_self, Int.toNat_natCast, ZaG, ZaF, Zbu, hj1, List.drop_zero, ZaB, true_and, wi]
    have e : noEv  (l.getD i []) = noEv  [(l.getD i []).getD 0 0, (l.getD i []).getD 1 0, (l.getD i []).getD 2 0, (l.getD i []).getD 3 0] := rfl
    cases ho : noEv  (l.getD i []) with
    | false => rw [e] at ho; rw [ho]; exact h2 (by rw [e]; exact ho)
    | true => rw [e] at ho; rw [ho]; exact h1 (by rw [e]; exact ho)
  · rw [Zs7]
    simp only [Zaf, Int.ofNat_lt, Nat.lt_irrefl, decide_false, cond_false, true_and]
    exact h1
def Zq2 : Spec := fun ds Q => match ds with | [.c (.s 0 4 R sp), .c (.f 117 [] [.p 0 [.f 63 [] []] 0])] => cond (okZ 4 R) (Q (I (match (toZ R).findIdx? (noEv ) with | some i => (i : Int) | none => -1))) False | _ => False
theorem ZtB : Zad Tryz.prog 163 Zq2 := o_of Tryz.func163 (by kernel_rfl) rfl fun ds Q h => by
  unfold Zq2 at h; split at h
  · rename_i R sp 
    obtain ⟨h1, h2⟩ := Zae h
    obtain ⟨e1, w1, n1⟩ := Zag h1
    rw [e1]
    rw [← Zau R] at n1
    generalize toZ R = l at *
    refine ⟨_, ZaK (l := []) (m := [(2, Zrp  l sp)]) .nil mixed (ZbK rfl (by kernel_rfl) (ZuO  w1 n1)) Tryz.func163 rfl rfl rfl ?_, rfl, rfl, h2⟩
    rw [Zva]
    refine ⟨rfl, fun i hi => ?_, fun hn => ?_⟩
    · rw [hi.find]
    · rw [hn.find]
  · exact h.elim
theorem ZtM  (R sp : List (List D)) (K : DV → Prop) : (ask Tryz.prog [(163, Zq2)] Tryz.f116 [dS 4 R sp, .c (.f 117 [] [.p 0 [.f 63 [] []] 0])] K) = (bif okZ (4) R then K (DV.c (D.v (Value.bool (decide ((match List.findIdx? noEv (toZ R) with | some i => @Nat.cast Int _ i | none => -1) ≥ 0))))) else False) := by kernel_rfl
def ZqY : Spec := fun ds Q => match ds with | [.c (.s 0 4 R sp), .c (.f 117 [] [.p 0 [.f 63 [] []] 0])] => cond (okZ 4 R) (Q (B ((toZ R).any (noEv )))) False | _ => False
theorem Zuq : Zad Tryz.prog 116 ZqY := o_of Tryz.func116 (by kernel_rfl) rfl fun ds Q h => by
  unfold ZqY at h; split at h
  · obtain ⟨h1, h2⟩ := Zae h
    refine ⟨_, Zaj (.cons ZtB .nil) mixed Tryz.func116 rfl rfl rfl ?_, rfl, rfl, h2⟩
    rw [ZtM, h1, Zd0]; rfl
  · exact h.elim
theorem ZrR (R : List (List D)) (K : DV → Prop) : (ask Tryz.prog [(116, ZqY)] Tryz.f67 [.c (.s 0 4 R []), .c (.f 63 [] [])] K) = (bif okZ (4) R then K (DV.c (D.v (Value.bool !List.any (toZ R) noEv))) else False) := by kernel_rfl
def Zfy : Spec := fun ds Q => match ds with | [.c d, .c (.f 63 [] [])] => cond d.isOwn False (ZbV 4 d fun R => cond (okZ 4 R) (Q (B (!(toZ R).any noEv))) False) | _ => False
theorem ZiQ : Zad Tryz.prog 67 Zfy := o_al Tryz.func67 (by kernel_rfl) rfl fun ds Q h => by
  unfold Zfy at h; split at h
  · rename_i d
    cases hd : d.isOwn with
    | true => rw [hd] at h; exact h.elim
    | false =>
      rw [hd] at h
      obtain ⟨R, h, r1⟩ := Zaq h
      obtain ⟨h1, h2⟩ := Zae h
      refine ⟨_, _, .cons (.c r1 hd rfl) (.cons (.refl _) .nil), Zaj (.cons Zuq .nil) mixed Tryz.func67 rfl rfl rfl ?_, rfl, rfl, h2⟩
      rw [ZrR, h1]; rfl
  · exact h.elim
theorem eMIn (x m : Int) (K : DV → Prop) : (ask Tryz.prog [] Tryz.f113 [I x, I m] K) = (bif decide (x ≥ 0) then K (DV.c (D.v (Value.bool (decide (x ≤ m))))) else K (DV.c (D.v (Value.bool false)))) := by kernel_rfl
theorem oMIn : Zad Tryz.prog 113 sIn := o_of Tryz.func113 (by kernel_rfl) rfl fun ds Q h => by
  unfold sIn at h; split at h
  · refine ⟨_, Zaj .nil mixed Tryz.func113 rfl rfl rfl ?_, rfl, rfl, h⟩
    rw [eMIn]; rename_i x m; unfold upto; cases decide (x ≥ 0) <;> rfl
  · exact h.elim
def mx (a b : Int) : Int := if b > a then b else a
def mx4 (a b c d : Int) : Int := mx (mx (mx a b) c) d
theorem eMx4 (a b c d : Int) (K : DV → Prop) : (ask Tryz.prog [] Tryz.f62 [.c (.s 0 1 [[vi a], [vi b], [vi c], [vi d]] [])] K) = K (I (mx4 a b c d)) := by kernel_rfl
def sMx : Spec := fun ds Q => match ds with | [.c (.s 0 1 [[.v (.int .i64 a)], [.v (.int .i64 b)], [.v (.int .i64 c)], [.v (.int .i64 d)]] [])] => Q (I (mx4 a b c d)) | _ => False
theorem oMx : Zad Tryz.prog 62 sMx := o_of Tryz.func62 (by kernel_rfl) rfl fun ds Q h => by
  unfold sMx at h; split at h
  · rename_i a b c d
    exact ⟨_, Zaj .nil mixed Tryz.func62 rfl rfl rfl (by rw [eMx4]), rfl, rfl, h⟩
  · exact h.elim
end

section
open Go Go.Proofs
def SesD.on (q : SesD) (p r w : List (List Int)) : SesD := { q with pg := mZ p, rd := mZ r, wt := mZ w }
def Zaz (s : SesD) : Bool := okZ 4 s.pg && (okZ 3 s.rd && okZ 3 s.wt)
theorem ZlL {s : SesD} (h : Zaz s = true) : s = s.on (toZ s.pg) (toZ s.rd) (toZ s.wt) ∧ (wid 4 (toZ s.pg) ∧ (toZ s.pg).length ≤ 9223372036854775807) ∧ (wid 3 (toZ s.rd) ∧ (toZ s.rd).length ≤ 9223372036854775807) ∧ (wid 3 (toZ s.wt) ∧ (toZ s.wt).length ≤ 9223372036854775807) := by
  unfold Zaz at h
  simp only [Bool.and_eq_true] at h
  obtain ⟨h1, h2, h3⟩ := h
  obtain ⟨a1, a2, a3⟩ := Zag h1
  obtain ⟨b1, b2, b3⟩ := Zag h2
  obtain ⟨c1, c2, c3⟩ := Zag h3
  refine ⟨?_, ⟨a2, by rw [Zau]; exact a3⟩, ⟨b2, by rw [Zau]; exact b3⟩, ⟨c2, by rw [Zau]; exact c3⟩⟩
  obtain ⟨id, lb, cl, pg, st, pc, r0, r1, r2, r3, rd, wt, at', sp, tr, rs, to⟩ := s
  simp only [SesD.on] at a1 b1 c1 ⊢
  rw [← a1, ← b1, ← c1]
def ZbS (R0 : List (List D)) (R1 : List (List D)) (R2 : List (List D)) (R3 : List (List D)) (q : SesD) (v : Bool) (i : Int) : X := ⟨mkT 70 [(2, .c (.rp 3 0 4 0 0)), (3, .c (.rp 4 0 17 0 0)), (4, ab v), (5, ai i)], [(3, .bx 0 4 [.d (.s 0 3 R0 []), .d (.s 0 3 R1 []), .d (.s 0 3 R2 []), .d (.s 0 3 R3 [])]), (4, .bx 0 17 ((sesL 0 q).map C.d))], [], []⟩
def Zet (R0 : List (List D)) (R1 : List (List D)) (R2 : List (List D)) (R3 : List (List D)) (q : SesD) : Vw := fun y K => wB y 4 fun v => wI y 5 fun i => K (ZbS R0 R1 R2 R3 q v i)
theorem Zg3 (R0 : List (List D)) (R1 : List (List D)) (R2 : List (List D)) (R3 : List (List D)) (q : SesD) : VwOK (Zet R0 R1 R2 R3 q) := fun y K h => by
  unfold Zet at h
  obtain ⟨v, h⟩ := Zdj h
  obtain ⟨i, h⟩ := Zby h
  exact ⟨_, h⟩
theorem rWd1 (R0 : List (List D)) (R1 : List (List D)) (R2 : List (List D)) (R3 : List (List D)) (q : SesD) (v : Bool) (i : Int) (N : X → Prop) (E : Exit → X → Prop) : (Zcc Tryz.prog (hkA band bor [(164, Zeo)] []) Tryz.f120 0 [] [2, 3, 4, 5] [3, 4] (Zet R0 R1 R2 R3 q) (fun _ => Zet R0 R1 R2 R3 q) N E (ZbS R0 R1 R2 R3 q v i)) = (bif decide (i < @Nat.cast Int _ (List.length q.pg)) then bif decide (0 ≤ i) && decide (i < @Nat.cast Int _ (List.length q.pg)) then bif isJ [IntKind.i64] (List.drop (0) (List.getD q.pg (Int.toNat i) [])) then bif hdJ (List.drop (0) (List.getD q.pg (Int.toNat i) [])) == 2 then bif decide (0 ≤ i) && decide (i < @Nat.cast Int _ (List.length q.pg)) then bif isJ [IntKind.i64] (List.drop (2) (List.getD q.pg (Int.toNat i) [])) then bif decide (0 ≤ i) && decide (i < @Nat.cast Int _ (List.length q.pg)) then bif isJ [IntKind.i64] (List.drop (3) (List.getD q.pg (Int.toNat i) [])) then bif !thr (List.length R0) (List.length R1) (List.length R2) (List.length R3) (hdJ (List.drop (2) (List.getD q.pg (Int.toNat i) []))) (hdJ (List.drop (3) (List.getD q.pg (Int.toNat i) []))) then ZbS R0 R1 R2 R3 q false i = ZbS R0 R1 R2 R3 q false i ∧ E Exit.ret (ZbS R0 R1 R2 R3 q false i) else ZbS R0 R1 R2 R3 q v (IntKind.wrap IntKind.i64 (i + 1)) = ZbS R0 R1 R2 R3 q v (IntKind.wrap IntKind.i64 (i + 1)) ∧ N (ZbS R0 R1 R2 R3 q v (IntKind.wrap IntKind.i64 (i + 1))) else False else False else False else False else bif hdJ (List.drop (0) (List.getD q.pg (Int.toNat i) [])) == 3 then bif decide (0 ≤ i) && decide (i < @Nat.cast Int _ (List.length q.pg)) then bif isJ [IntKind.i64] (List.drop (2) (List.getD q.pg (Int.toNat i) [])) then bif decide (0 ≤ i) && decide (i < @Nat.cast Int _ (List.length q.pg)) then bif isJ [IntKind.i64] (List.drop (3) (List.getD q.pg (Int.toNat i) [])) then bif !thr (List.length R0) (List.length R1) (List.length R2) (List.length R3) (hdJ (List.drop (2) (List.getD q.pg (Int.toNat i) []))) (hdJ (List.drop (3) (List.getD q.pg (Int.toNat i) []))) then ZbS R0 R1 R2 R3 q false i = ZbS R0 R1 R2 R3 q false i ∧ E Exit.ret (ZbS R0 R1 R2 R3 q false i) else ZbS R0 R1 R2 R3 q v (IntKind.wrap IntKind.i64 (i + 1)) = ZbS R0 R1 R2 R3 q v (IntKind.wrap IntKind.i64 (i + 1)) ∧ N (ZbS R0 R1 R2 R3 q v (IntKind.wrap IntKind.i64 (i + 1))) else False else False else False else False else ZbS R0 R1 R2 R3 q v (IntKind.wrap IntKind.i64 (i + 1)) = ZbS R0 R1 R2 R3 q v (IntKind.wrap IntKind.i64 (i + 1)) ∧ N (ZbS R0 R1 R2 R3 q v (IntKind.wrap IntKind.i64 (i + 1))) else False else False else ZbS R0 R1 R2 R3 q v i = ZbS R0 R1 R2 R3 q v i ∧ E (Exit.exit (0)) (ZbS R0 R1 R2 R3 q v i)) := by kernel_rfl
def fWd1 (a b c d : List (List Int)) (q : SesD) (p r w : List (List Int)) : LSum := ZcU [2, 3, 4, 5] [3, 4] (fun i => ZbS (mZ a) (mZ b) (mZ c) (mZ d) (q.on p r w) false i) (fun i => ZbS (mZ a) (mZ b) (mZ c) (mZ d) (q.on p r w) false i) p.length (fun i => noIn (mZ a) (mZ b) (mZ c) (mZ d) (p.getD i [])) .ret (.exit 0)
theorem kWd1 {a b c d : List (List Int)} {q : SesD} {p r w : List (List Int)} (hw : wid 4 p) (hn : p.length ≤ 9223372036854775807) (Q : Exit → X → Prop) (x : X) (h : fWd1 a b c d q p r w Q x) : XWP Tryz.prog (.loop (Zan Tryz.f120 0)) Q x := by
  refine Zcm (sw := []) (V := Zet (mZ a) (mZ b) (mZ c) (mZ d) (q.on p r w)) (VE := fun _ => Zet (mZ a) (mZ b) (mZ c) (mZ d) (q.on p r w)) mixed (Zg3 (mZ a) (mZ b) (mZ c) (mZ d) (q.on p r w)) (fun _ => Zg3 (mZ a) (mZ b) (mZ c) (mZ d) (q.on p r w)) _ _ _ _ _ _ (fun i hl => ⟨hkA band bor [(164, Zeo)] [], ZaI (.cons Ziy .nil), Zah rfl, fun N E h1 h2 => ?_⟩) ⟨hkA band bor [(164, Zeo)] [], ZaI (.cons Ziy .nil), Zah rfl, fun N E h1 => ?_⟩ Q x h
  · rw [rWd1]
    have wi : IntKind.wrap .i64 ((i : Int) + 1) = ((i + 1 : Nat) : Int) := Zat (n := 1) (by omega)
    have a0 : isJ [IntKind.i64] ((mZ p).getD i []) = true := Zav (j := 0) (n := 1) hw hl (by omega)
    have a1 : isJ [IntKind.i64] (List.drop 1 ((mZ p).getD i [])) = true := Zav (j := 1) (n := 1) hw hl (by omega)
    have a2 : isJ [IntKind.i64] (List.drop 2 ((mZ p).getD i [])) = true := Zav (j := 2) (n := 1) hw hl (by omega)
    have a3 : isJ [IntKind.i64] (List.drop 3 ((mZ p).getD i [])) = true := Zav (j := 3) (n := 1) hw hl (by omega)
    have a9 : isJ [IntKind.i64, IntKind.i64, IntKind.i64, IntKind.i64] ((mZ p).getD i []) = true := Zav (j := 0) (n := 4) hw hl (by omega)
    simp only [SesD.on, Zaf, Int.ofNat_lt, hl, decide_true, cond_true, Int.natCast_nonneg, Bool.and_self, Int.toNat_natCast, a0, a1, a2, a3, a9, List.drop_zero, ZaB, Zci, ZaG, ZaF, Zbu, true_and, wi] at h1 h2 ⊢
    unfold noIn thW at h1 h2
    simp only [Zaf] at h1 h2
    unfold isRW at h1 h2
    generalize thr a.length b.length c.length d.length ((p.getD i []).getD 2 0) ((p.getD i []).getD 3 0) = u at h1 h2 ⊢
    cases e2 : ((p.getD i []).getD 0 0 == 2) <;> cases e3 : ((p.getD i []).getD 0 0 == 3) <;> cases u <;> simp only [e2, e3, cond_true, cond_false, Bool.not_true, Bool.not_false, Bool.and_true, Bool.and_false, Bool.true_and, Bool.false_and, forall_const, reduceCtorEq, false_implies] at h1 h2 ⊢ <;> first | exact h1 | exact h2 | exact h1 trivial | exact h2 trivial
  · rw [rWd1]
    simp only [SesD.on, Zaf, Int.ofNat_lt, Nat.lt_irrefl, decide_false, cond_false, true_and]
    exact h1
def ZdF (R0 : List (List D)) (R1 : List (List D)) (R2 : List (List D)) (R3 : List (List D)) (q : SesD) (v : Bool) (i : Int) : X := ⟨mkT 70 [(2, .c (.rp 3 0 4 0 0)), (3, .c (.rp 4 0 17 0 0)), (4, ab v), (7, ai i)], [(3, .bx 0 4 [.d (.s 0 3 R0 []), .d (.s 0 3 R1 []), .d (.s 0 3 R2 []), .d (.s 0 3 R3 [])]), (4, .bx 0 17 ((sesL 0 q).map C.d))], [], []⟩
def Zew (R0 : List (List D)) (R1 : List (List D)) (R2 : List (List D)) (R3 : List (List D)) (q : SesD) : Vw := fun y K => wB y 4 fun v => wI y 7 fun i => K (ZdF R0 R1 R2 R3 q v i)
theorem Zg1 (R0 : List (List D)) (R1 : List (List D)) (R2 : List (List D)) (R3 : List (List D)) (q : SesD) : VwOK (Zew R0 R1 R2 R3 q) := fun y K h => by
  unfold Zew at h
  obtain ⟨v, h⟩ := Zdj h
  obtain ⟨i, h⟩ := Zby h
  exact ⟨_, h⟩
theorem rWd2 (R0 : List (List D)) (R1 : List (List D)) (R2 : List (List D)) (R3 : List (List D)) (q : SesD) (v : Bool) (i : Int) (N : X → Prop) (E : Exit → X → Prop) : (Zcc Tryz.prog (hkA band bor [(164, Zeo)] []) Tryz.f120 1 [] [2, 3, 4, 7] [3, 4] (Zew R0 R1 R2 R3 q) (fun _ => Zew R0 R1 R2 R3 q) N E (ZdF R0 R1 R2 R3 q v i)) = (bif decide (i < @Nat.cast Int _ (List.length q.wt)) then bif decide (0 ≤ i) && decide (i < @Nat.cast Int _ (List.length q.wt)) then bif isJ [IntKind.i64] (List.drop (0) (List.getD q.wt (Int.toNat i) [])) then bif decide (0 ≤ i) && decide (i < @Nat.cast Int _ (List.length q.wt)) then bif isJ [IntKind.i64] (List.drop (1) (List.getD q.wt (Int.toNat i) [])) then bif !thr (List.length R0) (List.length R1) (List.length R2) (List.length R3) (hdJ (List.drop (0) (List.getD q.wt (Int.toNat i) []))) (hdJ (List.drop (1) (List.getD q.wt (Int.toNat i) []))) then ZdF R0 R1 R2 R3 q false i = ZdF R0 R1 R2 R3 q false i ∧ E Exit.ret (ZdF R0 R1 R2 R3 q false i) else ZdF R0 R1 R2 R3 q v (IntKind.wrap IntKind.i64 (i + 1)) = ZdF R0 R1 R2 R3 q v (IntKind.wrap IntKind.i64 (i + 1)) ∧ N (ZdF R0 R1 R2 R3 q v (IntKind.wrap IntKind.i64 (i + 1))) else False else False else False else False else ZdF R0 R1 R2 R3 q v i = ZdF R0 R1 R2 R3 q v i ∧ E (Exit.exit (2)) (ZdF R0 R1 R2 R3 q v i)) := by kernel_rfl
def fWd2 (a b c d : List (List Int)) (q : SesD) (p r w : List (List Int)) : LSum := ZcU [2, 3, 4, 7] [3, 4] (fun i => ZdF (mZ a) (mZ b) (mZ c) (mZ d) (q.on p r w) false i) (fun i => ZdF (mZ a) (mZ b) (mZ c) (mZ d) (q.on p r w) false i) w.length (fun i => noWr (mZ a) (mZ b) (mZ c) (mZ d) (w.getD i [])) .ret (.exit 2)
theorem kWd2 {a b c d : List (List Int)} {q : SesD} {p r w : List (List Int)} (hw : wid 3 w) (hn : w.length ≤ 9223372036854775807) (Q : Exit → X → Prop) (x : X) (h : fWd2 a b c d q p r w Q x) : XWP Tryz.prog (.loop (Zan Tryz.f120 1)) Q x := by
  refine Zcm (sw := []) (V := Zew (mZ a) (mZ b) (mZ c) (mZ d) (q.on p r w)) (VE := fun _ => Zew (mZ a) (mZ b) (mZ c) (mZ d) (q.on p r w)) mixed (Zg1 (mZ a) (mZ b) (mZ c) (mZ d) (q.on p r w)) (fun _ => Zg1 (mZ a) (mZ b) (mZ c) (mZ d) (q.on p r w)) _ _ _ _ _ _ (fun i hl => ⟨hkA band bor [(164, Zeo)] [], ZaI (.cons Ziy .nil), Zah rfl, fun N E h1 h2 => ?_⟩) ⟨hkA band bor [(164, Zeo)] [], ZaI (.cons Ziy .nil), Zah rfl, fun N E h1 => ?_⟩ Q x h
  · rw [rWd2]
    have wi : IntKind.wrap .i64 ((i : Int) + 1) = ((i + 1 : Nat) : Int) := Zat (n := 1) (by omega)
    have a0 : isJ [IntKind.i64] ((mZ w).getD i []) = true := Zav (j := 0) (n := 1) hw hl (by omega)
    have a1 : isJ [IntKind.i64] (List.drop 1 ((mZ w).getD i [])) = true := Zav (j := 1) (n := 1) hw hl (by omega)
    have a2 : isJ [IntKind.i64] (List.drop 2 ((mZ w).getD i [])) = true := Zav (j := 2) (n := 1) hw hl (by omega)
    have a9 : isJ [IntKind.i64, IntKind.i64, IntKind.i64] ((mZ w).getD i []) = true := Zav (j := 0) (n := 3) hw hl (by omega)
    simp only [SesD.on, Zaf, Int.ofNat_lt, hl, decide_true, cond_true, Int.natCast_nonneg, Bool.and_self, Int.toNat_natCast, a0, a1, a2, a9, List.drop_zero, ZaB, Zci, ZaG, ZaF, Zbu, true_and, wi] at h1 h2 ⊢
    unfold noWr thW at h1 h2
    simp only [Zaf] at h1 h2
    generalize thr a.length b.length c.length d.length ((w.getD i []).getD 0 0) ((w.getD i []).getD 1 0) = u at h1 h2 ⊢
    cases u <;> simp only [cond_true, cond_false, Bool.not_true, Bool.not_false, forall_const, reduceCtorEq, false_implies] at h1 h2 ⊢ <;> first | exact h1 | exact h2 | exact h1 trivial | exact h2 trivial
  · rw [rWd2]
    simp only [SesD.on, Zaf, Int.ofNat_lt, Nat.lt_irrefl, decide_false, cond_false, true_and]
    exact h1
theorem Zp7 {P : Program} {l : List (FuncId × Spec)} {fn : Func} {k1 k2 : Nat} {s1 s2 : LSum} (hn : (Za1 (Zao fn)).length = 2) (e1 : Zbw (Zan fn 0) = k1) (e2 : Zbw (Zan fn 1) = k2) (hne : Nat.beq k1 k2 = false) (h1 : ∀ Q x, s1 Q x → XWP P (.loop (Zan fn 0)) Q x) (h2 : ∀ Q x, s2 Q x → XWP P (.loop (Zan fn 1)) Q x) : Zas P (hkl l [(k1, s1), (k2, s2)]) (Zao fn) :=
  Zdi 2 hn fun i hi s hs Q x hq => by
    match i, hi with
    | 0, _ =>
      rw [e1] at hs
      have hs' : some s1 = some s := by simpa [ZcX, hkl, hkA, Za7] using hs
      cases hs'
      exact h1 Q x hq
    | 1, _ =>
      rw [e2] at hs
      have hs' : some s2 = some s := by simpa [ZcX, hkl, hkA, Za7, hne] using hs
      cases hs'
      exact h2 Q x hq
theorem eWds (a b c d : List (List Int)) (q : SesD) (p r w : List (List Int)) (K : DV → Prop) : (askL Tryz.prog [(164, Zeo), (165, sRT)] [(2, fWd1 a b c d q p r w), (8, fWd2 a b c d q p r w)] Tryz.f120 [.agg (wsL (mZ a) (mZ b) (mZ c) (mZ d)), .agg (sesL 0 (q.on p r w))] K) = (ZbS (mZ a) (mZ b) (mZ c) (mZ d) { id := q.id, lb := q.lb, cl := q.cl, pg := mZ p, st := q.st, pc := q.pc, r0 := q.r0, r1 := q.r1, r2 := q.r2, r3 := q.r3, rd := mZ r, wt := mZ w, at' := q.at', sp := q.sp, tr := q.tr, rs := q.rs, to := q.to } false (0) = ZbS (mZ a) (mZ b) (mZ c) (mZ d) { id := q.id, lb := q.lb, cl := q.cl, pg := mZ p, st := q.st, pc := q.pc, r0 := q.r0, r1 := q.r1, r2 := q.r2, r3 := q.r3, rd := mZ r, wt := mZ w, at' := q.at', sp := q.sp, tr := q.tr, rs := q.rs, to := q.to } false (0) ∧ (∀ (i : Nat), firstAt (fun i => noIn (mZ a) (mZ b) (mZ c) (mZ d) (List.getD p i [])) (List.length p) i → K (DV.c (D.v (Value.bool false)))) ∧ (noneTo (fun i => noIn (mZ a) (mZ b) (mZ c) (mZ d) (List.getD p i [])) (List.length p) → ZdF (mZ a) (mZ b) (mZ c) (mZ d) { id := q.id, lb := q.lb, cl := q.cl, pg := mZ p, st := q.st, pc := q.pc, r0 := q.r0, r1 := q.r1, r2 := q.r2, r3 := q.r3, rd := mZ r, wt := mZ w, at' := q.at', sp := q.sp, tr := q.tr, rs := q.rs, to := q.to } false (0) = ZdF (mZ a) (mZ b) (mZ c) (mZ d) { id := q.id, lb := q.lb, cl := q.cl, pg := mZ p, st := q.st, pc := q.pc, r0 := q.r0, r1 := q.r1, r2 := q.r2, r3 := q.r3, rd := mZ r, wt := mZ w, at' := q.at', sp := q.sp, tr := q.tr, rs := q.rs, to := q.to } false (0) ∧ (∀ (i : Nat), firstAt (fun i => noWr (mZ a) (mZ b) (mZ c) (mZ d) (List.getD w i [])) (List.length w) i → K (DV.c (D.v (Value.bool false)))) ∧ (noneTo (fun i => noWr (mZ a) (mZ b) (mZ c) (mZ d) (List.getD w i [])) (List.length w) → bif okA (mZ a) (mZ b) (mZ c) (mZ d) && okZ (3) (mZ r) then K (DV.c (D.v (Value.bool (List.all (toZ (mZ r)) (thv (toZ (mZ a)) (toZ (mZ b)) (toZ (mZ c)) (toZ (mZ d))))))) else False))) := by kernel_rfl
end

section
open Go Go.Proofs
def Zhe (R0 R1 R2 R3 : List (List D)) (s : SesD) : Bool := rmay (toZ s.rd) && (ZbQ (toZ s.wt) && (!(toZ s.rd).any (noRd R0 R1 R2 R3) && (!(toZ s.wt).any (noWr R0 R1 R2 R3) && !(toZ s.pg).any (noIn R0 R1 R2 R3))))
def farB (s : SesD) : Bool := upto s.pc 0 s.pg.length && (upto s.at' 0 s.wt.length && (upto s.st 0 6 && upto s.rs 0 5))
def Zkr (s : SesD) : Bool := v4 s.r0 s.r1 s.r2 s.r3 && (clk s.sp && (clk s.tr && val8 s.to))
def Zai (R0 R1 R2 R3 : List (List D)) (s : SesD) : Bool := smay s.id s.lb s.cl (toZ s.pg) && (Zhe R0 R1 R2 R3 s && (farB s && Zkr s))
def stL0 (R0 : List (List D)) (R1 : List (List D)) (R2 : List (List D)) (R3 : List (List D)) (s : SesD)  : X := ⟨mkT 97 [(2, .c (.rp 3 0 1 0 0)), (3, .c (.rp 4 0 17 0 0))], [(3, .bx 0 1 [.d (.p 0 (wsL R0 R1 R2 R3) 0)]), (4, .bx 0 17 ((sesL 0 s).map C.d))], [], []⟩
def Zn1 (R0 : List (List D)) (R1 : List (List D)) (R2 : List (List D)) (R3 : List (List D)) (s : SesD) : Vw := fun y K => K (stL0 R0 R1 R2 R3 s )
theorem Zni (R0 : List (List D)) (R1 : List (List D)) (R2 : List (List D)) (R3 : List (List D)) (s : SesD) : VwOK (Zn1 R0 R1 R2 R3 s) := fun y K h => by
  unfold Zn1 at h
  exact ⟨_, h⟩
def stL1 (R0 : List (List D)) (R1 : List (List D)) (R2 : List (List D)) (R3 : List (List D)) (s : SesD) (b1 : Bool) : X := ⟨mkT 97 [(2, .c (.rp 3 0 1 0 0)), (3, .c (.rp 4 0 17 0 0)), (5, ab b1)], [(3, .bx 0 1 [.d (.p 0 (wsL R0 R1 R2 R3) 0)]), (4, .bx 0 17 ((sesL 0 s).map C.d))], [], []⟩
def Zmr (R0 : List (List D)) (R1 : List (List D)) (R2 : List (List D)) (R3 : List (List D)) (s : SesD) : Vw := fun y K => wB y 5 fun b1 => K (stL1 R0 R1 R2 R3 s b1)
theorem Zor (R0 : List (List D)) (R1 : List (List D)) (R2 : List (List D)) (R3 : List (List D)) (s : SesD) : VwOK (Zmr R0 R1 R2 R3 s) := fun y K h => by
  unfold Zmr at h
  obtain ⟨b1, h⟩ := Zdj h
  exact ⟨_, h⟩
def stL2 (R0 : List (List D)) (R1 : List (List D)) (R2 : List (List D)) (R3 : List (List D)) (s : SesD) (b1 : Bool) (b2 : Bool) : X := ⟨mkT 97 [(2, .c (.rp 3 0 1 0 0)), (3, .c (.rp 4 0 17 0 0)), (5, ab b1), (6, ab b2)], [(3, .bx 0 1 [.d (.p 0 (wsL R0 R1 R2 R3) 0)]), (4, .bx 0 17 ((sesL 0 s).map C.d))], [], []⟩
def Zn8 (R0 : List (List D)) (R1 : List (List D)) (R2 : List (List D)) (R3 : List (List D)) (s : SesD) : Vw := fun y K => wB y 5 fun b1 => wB y 6 fun b2 => K (stL2 R0 R1 R2 R3 s b1 b2)
theorem Zop (R0 : List (List D)) (R1 : List (List D)) (R2 : List (List D)) (R3 : List (List D)) (s : SesD) : VwOK (Zn8 R0 R1 R2 R3 s) := fun y K h => by
  unfold Zn8 at h
  obtain ⟨b1, h⟩ := Zdj h
  obtain ⟨b2, h⟩ := Zdj h
  exact ⟨_, h⟩
def stL3 (R0 : List (List D)) (R1 : List (List D)) (R2 : List (List D)) (R3 : List (List D)) (s : SesD) (b1 : Bool) (b2 : Bool) (b3 : Bool) : X := ⟨mkT 97 [(2, .c (.rp 3 0 1 0 0)), (3, .c (.rp 4 0 17 0 0)), (5, ab b1), (6, ab b2), (7, ab b3)], [(3, .bx 0 1 [.d (.p 0 (wsL R0 R1 R2 R3) 0)]), (4, .bx 0 17 ((sesL 0 s).map C.d))], [], []⟩
def ZmA (R0 : List (List D)) (R1 : List (List D)) (R2 : List (List D)) (R3 : List (List D)) (s : SesD) : Vw := fun y K => wB y 5 fun b1 => wB y 6 fun b2 => wB y 7 fun b3 => K (stL3 R0 R1 R2 R3 s b1 b2 b3)
theorem Zok (R0 : List (List D)) (R1 : List (List D)) (R2 : List (List D)) (R3 : List (List D)) (s : SesD) : VwOK (ZmA R0 R1 R2 R3 s) := fun y K h => by
  unfold ZmA at h
  obtain ⟨b1, h⟩ := Zdj h
  obtain ⟨b2, h⟩ := Zdj h
  obtain ⟨b3, h⟩ := Zdj h
  exact ⟨_, h⟩
def stL4 (R0 : List (List D)) (R1 : List (List D)) (R2 : List (List D)) (R3 : List (List D)) (s : SesD) (b : Bool) : X := ⟨mkT 97 [(4, ab b)], [], [], []⟩
def ZnF (R0 : List (List D)) (R1 : List (List D)) (R2 : List (List D)) (R3 : List (List D)) (s : SesD) : Vw := fun y K => wB y 4 fun b => K (stL4 R0 R1 R2 R3 s b)
theorem Zmx (R0 : List (List D)) (R1 : List (List D)) (R2 : List (List D)) (R3 : List (List D)) (s : SesD) : VwOK (ZnF R0 R1 R2 R3 s) := fun y K h => by
  unfold ZnF at h
  obtain ⟨b, h⟩ := Zdj h
  exact ⟨_, h⟩
theorem eL0 (R0 : List (List D)) (R1 : List (List D)) (R2 : List (List D)) (R3 : List (List D)) (s : SesD) (N : X → Prop) : (Zj3 Tryz.prog (hk []) (partOf Tryz.f66 0) [2, 3] [3, 4] (Zn1 R0 R1 R2 R3 s) N (Zbm 97 [.agg [.p 0 (wsL R0 R1 R2 R3) 0], .agg (sesL 0 s)])) = (stL0 R0 R1 R2 R3 s = stL0 R0 R1 R2 R3 s ∧ N (stL0 R0 R1 R2 R3 s)) := by kernel_rfl
theorem eL1 (R0 : List (List D)) (R1 : List (List D)) (R2 : List (List D)) (R3 : List (List D)) (s : SesD) (N : X → Prop) : (Zj3 Tryz.prog (hk [(89, Zj9)]) (partOf Tryz.f66 1) [2, 3, 5] [3, 4] (Zmr R0 R1 R2 R3 s) N (stL0 R0 R1 R2 R3 s)) = (bif okZ (4) s.pg then stL1 R0 R1 R2 R3 s (smay s.id s.lb s.cl (toZ s.pg)) = stL1 R0 R1 R2 R3 s (smay s.id s.lb s.cl (toZ s.pg)) ∧ N (stL1 R0 R1 R2 R3 s (smay s.id s.lb s.cl (toZ s.pg))) else False) := by kernel_rfl
theorem eL2 (R0 : List (List D)) (R1 : List (List D)) (R2 : List (List D)) (R3 : List (List D)) (s : SesD) (b1 : Bool) (N : X → Prop) : (Zj3 Tryz.prog (hk [(105, sRM), (106, sWMy), (107, ZmK), (109, Znm), (111, ZnM)]) (partOf Tryz.f66 2) [2, 3, 5, 6] [3, 4] (Zn8 R0 R1 R2 R3 s) N (stL1 R0 R1 R2 R3 s b1)) = (bif okZ (3) s.rd then bif rmay (toZ s.rd) then bif okZ (3) s.wt then bif ZbQ (toZ s.wt) then bif okZ (3) s.rd then bif !List.any (toZ s.rd) (noRd R0 R1 R2 R3) then bif okZ (3) s.wt then bif !List.any (toZ s.wt) (noWr R0 R1 R2 R3) then bif okZ (4) s.pg then (stL2 R0 R1 R2 R3 s b1 !List.any (toZ s.pg) (noIn R0 R1 R2 R3)) = stL2 R0 R1 R2 R3 s b1 !List.any (toZ s.pg) (noIn R0 R1 R2 R3) ∧ N (stL2 R0 R1 R2 R3 s b1 !List.any (toZ s.pg) (noIn R0 R1 R2 R3)) else False else stL2 R0 R1 R2 R3 s b1 false = stL2 R0 R1 R2 R3 s b1 false ∧ N (stL2 R0 R1 R2 R3 s b1 false) else False else stL2 R0 R1 R2 R3 s b1 false = stL2 R0 R1 R2 R3 s b1 false ∧ N (stL2 R0 R1 R2 R3 s b1 false) else False else stL2 R0 R1 R2 R3 s b1 false = stL2 R0 R1 R2 R3 s b1 false ∧ N (stL2 R0 R1 R2 R3 s b1 false) else False else stL2 R0 R1 R2 R3 s b1 false = stL2 R0 R1 R2 R3 s b1 false ∧ N (stL2 R0 R1 R2 R3 s b1 false) else False) := by kernel_rfl
theorem eL3 (R0 : List (List D)) (R1 : List (List D)) (R2 : List (List D)) (R3 : List (List D)) (s : SesD) (b1 : Bool) (b2 : Bool) (N : X → Prop) : (Zj3 Tryz.prog (hk [(113, sIn)]) (partOf Tryz.f66 3) [2, 3, 5, 6, 7] [3, 4] (ZmA R0 R1 R2 R3 s) N (stL2 R0 R1 R2 R3 s b1 b2)) = (bif upto s.pc (0) (@Nat.cast Int _ (List.length s.pg)) then bif upto s.at' (0) (@Nat.cast Int _ (List.length s.wt)) then bif upto s.st (0) (6) then stL3 R0 R1 R2 R3 s b1 b2 (upto s.rs (0) (5)) = stL3 R0 R1 R2 R3 s b1 b2 (upto s.rs (0) (5)) ∧ N (stL3 R0 R1 R2 R3 s b1 b2 (upto s.rs (0) (5))) else stL3 R0 R1 R2 R3 s b1 b2 false = stL3 R0 R1 R2 R3 s b1 b2 false ∧ N (stL3 R0 R1 R2 R3 s b1 b2 false) else stL3 R0 R1 R2 R3 s b1 b2 false = stL3 R0 R1 R2 R3 s b1 b2 false ∧ N (stL3 R0 R1 R2 R3 s b1 b2 false) else stL3 R0 R1 R2 R3 s b1 b2 false = stL3 R0 R1 R2 R3 s b1 b2 false ∧ N (stL3 R0 R1 R2 R3 s b1 b2 false)) := by kernel_rfl
theorem eL4 (R0 : List (List D)) (R1 : List (List D)) (R2 : List (List D)) (R3 : List (List D)) (s : SesD) (b1 : Bool) (b2 : Bool) (b3 : Bool) (N : X → Prop) : (Zj3 Tryz.prog (hk [(114, sRgM), (102, sB clk), (115, sB val8)]) (partOf Tryz.f66 4) [4] [] (ZnF R0 R1 R2 R3 s) N (stL3 R0 R1 R2 R3 s b1 b2 b3)) = (bif b1 then bif b2 then bif b3 then bif v4 s.r0 s.r1 s.r2 s.r3 then bif clk s.sp then bif clk s.tr then stL4 R0 R1 R2 R3 s (val8 s.to) = stL4 R0 R1 R2 R3 s (val8 s.to) ∧ N (stL4 R0 R1 R2 R3 s (val8 s.to)) else stL4 R0 R1 R2 R3 s false = stL4 R0 R1 R2 R3 s false ∧ N (stL4 R0 R1 R2 R3 s false) else stL4 R0 R1 R2 R3 s false = stL4 R0 R1 R2 R3 s false ∧ N (stL4 R0 R1 R2 R3 s false) else stL4 R0 R1 R2 R3 s false = stL4 R0 R1 R2 R3 s false ∧ N (stL4 R0 R1 R2 R3 s false) else stL4 R0 R1 R2 R3 s false = stL4 R0 R1 R2 R3 s false ∧ N (stL4 R0 R1 R2 R3 s false) else stL4 R0 R1 R2 R3 s false = stL4 R0 R1 R2 R3 s false ∧ N (stL4 R0 R1 R2 R3 s false) else stL4 R0 R1 R2 R3 s false = stL4 R0 R1 R2 R3 s false ∧ N (stL4 R0 R1 R2 R3 s false)) := by kernel_rfl
theorem eL5 (R0 : List (List D)) (R1 : List (List D)) (R2 : List (List D)) (R3 : List (List D)) (s : SesD) (b : Bool) (K : DV → Prop) : (evp Tryz.prog (hk []) 200 (partOf Tryz.f66 5) (fun e y => match e with | .normal => finX Tryz.prog Tryz.f66 K .normal y | e => finX Tryz.prog Tryz.f66 K e y) (stL4 R0 R1 R2 R3 s b)) = (K (DV.c (D.v (Value.bool b)))) := by kernel_rfl
theorem Zsh : seqs (Zao Tryz.f66) = [partOf Tryz.f66 0, partOf Tryz.f66 1, partOf Tryz.f66 2, partOf Tryz.f66 3, partOf Tryz.f66 4, partOf Tryz.f66 5] := by kernel_rfl
theorem cLS (R0 R1 R2 R3 : List (List D)) (s : SesD) (hs : Zaz s = true) : CT Tryz.prog 66 [.agg [.p 0 (wsL R0 R1 R2 R3) 0], .agg (sesL 0 s)] (B (Zai R0 R1 R2 R3 s)) := by
  unfold Zaz at hs
  simp only [Bool.and_eq_true] at hs
  obtain ⟨h1, h2, h3⟩ := hs
  refine Zln Tryz.func66 (c := Zao Tryz.f66) rfl (Nat.le_of_ble_eq_true rfl) rfl (Zox _ _ _ ?_)
  rw [Zsh]
  refine ZfA (ts := [2, 3]) (ks := [3, 4]) (Zka .nil) mixed ZbB (by simp) (Zni R0 R1 R2 R3 s) ?_
  show Zj3 Tryz.prog _ _ _ _ _ _ (Zbm 97 _)
  rw [eL0]
  refine ⟨rfl, ZfA (ts := [2, 3, 5]) (ks := [3, 4]) (Zka (.cons Zty .nil)) mixed ZbB (by simp) (Zor R0 R1 R2 R3 s) ?_⟩
  rw [eL1]
  simp only [h1, cond_true]
  refine ⟨trivial, ?_⟩
  generalize hb1 : smay s.id s.lb s.cl (toZ s.pg) = b1
  refine ZfA (ts := [2, 3, 5, 6]) (ks := [3, 4]) (Zka (.cons oRM (.cons oWMy (.cons ZsS (.cons Zs5 (.cons Zsy .nil)))))) mixed ZbB (by simp) (Zop R0 R1 R2 R3 s) ?_
  suffices key2 : XS Tryz.prog [partOf Tryz.f66 3, partOf Tryz.f66 4, partOf Tryz.f66 5] (finX Tryz.prog Tryz.f66 fun r => r = B (Zai R0 R1 R2 R3 s)) (stL2 R0 R1 R2 R3 s b1 (Zhe R0 R1 R2 R3 s)) by
    rw [eL2]
    simp only [h1, h2, h3, cond_true]
    unfold Zhe at key2
    cases q1 : rmay (toZ s.rd) <;> cases q2 : ZbQ (toZ s.wt) <;> cases q3 : !(toZ s.rd).any (noRd R0 R1 R2 R3) <;> cases q4 : !(toZ s.wt).any (noWr R0 R1 R2 R3) <;> cases q5 : !(toZ s.pg).any (noIn R0 R1 R2 R3) <;>
      simp only [q1, q2, q3, q4, q5, cond_true, cond_false, Bool.and_true, Bool.and_false, Bool.true_and, Bool.false_and, true_and] at key2 ⊢ <;> exact key2
  generalize hb2 : Zhe R0 R1 R2 R3 s = b2
  refine ZfA (ts := [2, 3, 5, 6, 7]) (ks := [3, 4]) (Zka (.cons oMIn .nil)) mixed ZbB (by simp) (Zok R0 R1 R2 R3 s) ?_
  suffices key3 : XS Tryz.prog [partOf Tryz.f66 4, partOf Tryz.f66 5] (finX Tryz.prog Tryz.f66 fun r => r = B (Zai R0 R1 R2 R3 s)) (stL3 R0 R1 R2 R3 s b1 b2 (farB s)) by
    rw [eL3]
    unfold farB at key3
    cases q1 : upto s.pc 0 s.pg.length <;> cases q2 : upto s.at' 0 s.wt.length <;> cases q3 : upto s.st 0 6 <;> cases q4 : upto s.rs 0 5 <;>
      simp only [q1, q2, q3, q4, cond_true, cond_false, Bool.and_true, Bool.and_false, Bool.true_and, Bool.false_and, true_and] at key3 ⊢ <;> exact key3
  generalize hb3 : farB s = b3
  refine ZfA (ts := [4]) (ks := []) (Zka (.cons oRgM (.cons oClk (.cons oVal .nil)))) mixed ZbB (by simp) (Zmx R0 R1 R2 R3 s) ?_
  suffices key4 : XS Tryz.prog [partOf Tryz.f66 5] (finX Tryz.prog Tryz.f66 fun r => r = B (Zai R0 R1 R2 R3 s)) (stL4 R0 R1 R2 R3 s (b1 && (b2 && (b3 && Zkr s)))) by
    rw [eL4]
    unfold Zkr at key4
    cases b1 <;> cases b2 <;> cases b3 <;> cases q1 : v4 s.r0 s.r1 s.r2 s.r3 <;> cases q2 : clk s.sp <;> cases q3 : clk s.tr <;> cases q4 : val8 s.to <;>
      simp only [q1, q2, q3, q4, cond_true, cond_false, Bool.and_true, Bool.and_false, Bool.true_and, Bool.false_and, true_and] at key4 ⊢ <;> exact key4
  refine ZrH (Zka .nil) mixed ZbB ?_
  have h5 := eL5 R0 R1 R2 R3 s (b1 && (b2 && (b3 && Zkr s))) (fun r => r = B (Zai R0 R1 R2 R3 s))
  refine h5.mpr ?_
  rw [← hb1, ← hb2, ← hb3]; rfl
end

end Vm
