/- What the functions of this text do, told by an interpreter that is proved right (YtdfehiebnempaaaVA to VD). My own work. -/
import Derived.Test.YtdfehiebnempaaaVArA
import Derived.Test.YtdfehiebnempaaaVD
namespace Vm
open Go Go.Proofs
set_option linter.unusedSimpArgs false
set_option linter.unusedVariables false
set_option maxRecDepth 100000
theorem bifK (p q : Bool) (x : DV) : (bif p then (DV.c (.v (.bool q)) = x) else (DV.c (.v (.bool false)) = x)) = (DV.c (.v (.bool (p && q))) = x) := by cases p <;> rfl
theorem oClk : SpecOK Try.prog 79 (sB clk) := oB Try.func79 (by kernel_rfl) rfl fun x => ct_ask (.cons oIn .nil) mixed Try.func79 rfl rfl rfl (by
  have e : ask Try.prog [(93, sIn)] Try.f79 [I x] (fun r => r = B (clk x)) = (B (clk x) = B (clk x)) := by kernel_rfl
  rw [e])
theorem oRClk : SpecOK Try.prog 81 (sB clk) := oB Try.func81 (by kernel_rfl) rfl fun x => ct_ask (.cons oUp .nil) mixed Try.func81 rfl rfl rfl (by
  have e : ask Try.prog [(91, sUp)] Try.f81 [I x] (fun r => r = B (clk x)) = (B (clk x) = B (clk x)) := by kernel_rfl
  rw [e])
def wmay (v c l : Int) : Bool := val8 v && (clk c && upto l 0 255)
def sWMay : Spec := fun ds Q => match ds with | [.agg [.v (.int .i64 a), .v (.int .i64 b), .v (.int .i64 c)]] => Q (B (wmay a b c)) | _ => False
def sOdd : Spec := fun ds Q => match ds with | [.agg [.v (.int .i64 a), .v (.int .i64 b), .v (.int .i64 c)]] => Q (B (!wmay a b c)) | _ => False
theorem eWMay (a b c : Int) (K : DV → Prop) : (ask Try.prog [(90, sB val8), (79, sB clk), (93, sIn)] Try.f61 [.agg [vi a, vi b, vi c]] K) = (bif val8 a then bif clk b then K (DV.c (D.v (Value.bool (upto c (0) (255))))) else K (DV.c (D.v (Value.bool false))) else K (DV.c (D.v (Value.bool false)))) := by kernel_rfl
theorem eRWMay (a b c : Int) (K : DV → Prop) : (ask Try.prog [(58, sB val8), (81, sB clk), (91, sUp)] Try.f63 [.agg [vi a, vi b, vi c]] K) = (bif val8 a then bif clk b then K (DV.c (D.v (Value.bool (upto c (0) (255))))) else K (DV.c (D.v (Value.bool false))) else K (DV.c (D.v (Value.bool false)))) := by kernel_rfl
theorem eOdd (a b c : Int) (K : DV → Prop) : (ask Try.prog [(61, sWMay)] Try.f66 [.agg [vi a, vi b, vi c]] K) = (K (DV.c (D.v (Value.bool !wmay a b c)))) := by kernel_rfl
theorem oWMay : SpecOK Try.prog 61 sWMay := o_of Try.func61 (by kernel_rfl) rfl fun ds Q h => by
  unfold sWMay at h; split at h
  · refine ⟨_, ct_ask (.cons oVal (.cons oClk (.cons oIn .nil))) mixed Try.func61 rfl rfl rfl ?_, rfl, rfl, h⟩
    rw [eWMay]; simp only [bifK]; rfl
  · exact h.elim
theorem oRWMay : SpecOK Try.prog 63 sWMay := o_of Try.func63 (by kernel_rfl) rfl fun ds Q h => by
  unfold sWMay at h; split at h
  · refine ⟨_, ct_ask (.cons oRVal (.cons oRClk (.cons oUp .nil))) mixed Try.func63 rfl rfl rfl ?_, rfl, rfl, h⟩
    rw [eRWMay]; simp only [bifK]; rfl
  · exact h.elim
theorem oOdd : SpecOK Try.prog 66 sOdd := o_of Try.func66 (by kernel_rfl) rfl fun ds Q h => by
  unfold sOdd at h; split at h
  · refine ⟨_, ct_ask (.cons oWMay .nil) mixed Try.func66 rfl rfl rfl ?_, rfl, rfl, h⟩
    rw [eOdd]
  · exact h.elim
def wmayR (r : List Int) : Bool := wmay (r.getD 0 0) (r.getD 1 0) (r.getD 2 0)
def fx (l : List (List Int)) : Option Nat := l.findIdx? fun r => !wmayR r
def idxF (l : List (List Int)) : Int := match fx l with | some i => (i : Int) | none => -1
def stIx (R sp : List (List D)) (i v : Int) : X := ⟨mkT 19 [(0, aS 3 R sp), (1, .c (.d (.f 66 [] []))), (4, ai v), (7, ai R.length), (8, ai i)], [], []⟩
def vIx (R sp : List (List D)) (y : X) : X := stIx R sp (slotI y 8) (slotI y 4)
theorem eIxr (R sp : List (List D)) (i v : Int) (N : X → Prop) (E : Exit → X → Prop) : (roundA band bor Try.prog [(66, sOdd)] [] Try.f95 0 [0, 1, 4, 7, 8] [] (vIx R sp) (vIx R sp) N E (stIx R sp i v)) = (bif decide (i < @Nat.cast Int _ (List.length R)) then bif decide (0 ≤ i) && decide (i < @Nat.cast Int _ (List.length R)) then bif isJ [IntKind.i64, IntKind.i64, IntKind.i64] (List.drop (0) (List.getD R (Int.toNat i) [])) then bif !wmay (hdJ (List.drop (0) (List.getD R (Int.toNat i) []))) (hdJ (List.tail (List.drop (0) (List.getD R (Int.toNat i) [])))) (hdJ (List.tail (List.tail (List.drop (0) (List.getD R (Int.toNat i) []))))) then stIx R sp i i = stIx R sp i i ∧ E Exit.ret (stIx R sp i i) else stIx R sp (IntKind.wrap IntKind.i64 (i + 1)) v = stIx R sp (IntKind.wrap IntKind.i64 (i + 1)) v ∧ N (stIx R sp (IntKind.wrap IntKind.i64 (i + 1)) v) else False else False else stIx R sp i v = stIx R sp i v ∧ E (Exit.exit (0)) (stIx R sp i v)) := by kernel_rfl
def sumIx (l : List (List Int)) (sp : List (List D)) : LSum := fun Q x => x.only [0, 1, 4, 7, 8] [] = stIx (mZ l) sp 0 0 ∧ (∀ i : Nat, fx l = some i → Q .ret (stIx (mZ l) sp i i)) ∧ (fx l = none → Q (.exit 0) (stIx (mZ l) sp l.length 0))
theorem eIx (l : List (List Int)) (sp : List (List D)) (K : DV → Prop) : (askL Try.prog [] [(2, sumIx l sp)] Try.f95 [dS 3 (mZ l) sp, .c (.f 66 [] [])] K) = (stIx (mZ l) sp (0) (0) = stIx (mZ l) sp (0) (0) ∧ (∀ (i : Nat), fx l = some i → K (DV.c (D.v (Value.int IntKind.i64 (@Nat.cast Int _ i))))) ∧ (fx l = none → K (DV.c (D.v (Value.int IntKind.i64 (-1)))))) := by kernel_rfl
theorem ix_ok {l : List (List Int)} {sp : List (List D)} (hw : wid 3 l) (hn : l.length ≤ 9223372036854775807) (Q : Exit → X → Prop) (x : X) (h : sumIx l sp Q x) : XWP Try.prog (.loop (bodyL Try.f95 0)) Q x := by
  obtain ⟨h1, h2, h3⟩ := h
  refine xwp_roundH (ι := Nat) (H := hkA band bor [(66, sOdd)] []) (fn := Try.f95) (i := 0) (ts := [0, 1, 4, 7, 8]) (ks := []) (hkl_ok (.cons oOdd .nil)) mixed (loops_nil rfl)
    (fun i => stIx (mZ l) sp i 0) (fun i => i ≤ l.length ∧ ∀ j, j < i → wmayR (l.getD j []) = true) (fun i => l.length - i) 0 (vIx (mZ l) sp) (vIx (mZ l) sp) (fun i hp => ?_) ⟨Nat.zero_le _, fun j hj => by omega⟩ h1
  obtain ⟨hi, hj⟩ := hp
  show roundA band bor Try.prog _ _ Try.f95 0 _ _ _ _ _ _ _
  rw [eIxr]
  by_cases hl : i < l.length
  · have wi : IntKind.wrap .i64 ((i : Int) + 1) = ((i + 1 : Nat) : Int) := wrap_nat (n := 1) (by omega)
    have hj1 : isJ [IntKind.i64, IntKind.i64, IntKind.i64] ((mZ l).getD i []) = true := isJ_mZ (j := 0) (n := 3) hw hl (by omega)
    simp only [mZ_len, Int.ofNat_lt, hl, decide_true, cond_true, Int.natCast_nonneg, Bool.and_self, Int.toNat_natCast, hdJ_mZt1, hdJ_mZt2, hj1, List.drop_zero, hdJ_mZ0, true_and, wi]
    have e : wmayR (l.getD i []) = wmay ((l.getD i []).getD 0 0) ((l.getD i []).getD 1 0) ((l.getD i []).getD 2 0) := rfl
    rw [← e]
    cases ho : wmayR (l.getD i []) with
    | false =>
      refine h2 i ?_
      rw [fx, List.findIdx?_eq_some_iff_getElem]
      refine ⟨hl, ?_, fun j hji => ?_⟩
      · have : l.getD i [] = l[i] := by simp [List.getD_eq_getElem?_getD, hl]
        rw [this] at ho; simp [ho]
      · have := hj j hji
        have hjl : j < l.length := by omega
        have e2 : l.getD j [] = l[j] := by simp [List.getD_eq_getElem?_getD, hjl]
        rw [e2] at this; simp [this]
    | true =>
      refine ⟨i + 1, by omega, ⟨hl, fun j hji => ?_⟩, rfl⟩
      rcases Nat.lt_succ_iff_lt_or_eq.1 hji with hji | rfl
      · exact hj j hji
      · exact ho
  · have e : i = l.length := by omega
    subst e
    simp only [mZ_len, Int.ofNat_lt, Nat.lt_irrefl, decide_false, cond_false, true_and]
    refine h3 ?_
    rw [fx, List.findIdx?_eq_none_iff]
    intro x hx
    obtain ⟨j, hj', rfl⟩ := List.mem_iff_getElem.1 hx
    have := hj j hj'
    have e2 : l.getD j [] = l[j] := by simp [List.getD_eq_getElem?_getD, hj']
    rw [e2] at this; simp [this]
def sIx : Spec := fun ds Q => match ds with | [.c (.s 0 3 R sp), .c (.f 66 [] [])] => cond (okZ 3 R) (Q (I (idxF (toZ R)))) False | _ => False
theorem oIx : SpecOK Try.prog 95 sIx := o_of Try.func95 (by kernel_rfl) rfl fun ds Q h => by
  unfold sIx at h; split at h
  · rename_i R sp
    obtain ⟨h1, h2⟩ := cond_P h
    obtain ⟨e1, w1, n1⟩ := okZ_spec h1
    rw [e1]
    rw [← toZ_len R] at n1
    generalize toZ R = l at *
    refine ⟨_, ct_askL (l := []) (m := [(2, sumIx l sp)]) .nil mixed (loops1 rfl (by kernel_rfl) (ix_ok w1 n1)) Try.func95 rfl rfl rfl ?_, rfl, rfl, h2⟩
    rw [eIx]
    refine ⟨rfl, fun i hi => ?_, fun hn => ?_⟩
    · simp [idxF, hi]
    · simp [idxF, hn]
  · exact h.elim
def badW (l : List (List Int)) : Bool := l.any fun r => !wmayR r
theorem idx_any (l : List (List Int)) : decide (idxF l ≥ 0) = badW l := by
  unfold idxF
  cases h : fx l with
  | some i =>
    have : badW l = true := by
      rw [fx, List.findIdx?_eq_some_iff_getElem] at h
      obtain ⟨h1, h2, _⟩ := h
      exact List.any_eq_true.2 ⟨_, List.getElem_mem h1, h2⟩
    rw [this]; simp
  | none =>
    have : badW l = false := by
      rw [fx, List.findIdx?_eq_none_iff] at h
      unfold badW
      rw [List.any_eq_false]; intro x hx; simpa using h x hx
    rw [this]; rfl
theorem eCon (R sp : List (List D)) (K : DV → Prop) : (ask Try.prog [(95, sIx)] Try.f67 [dS 3 R sp, .c (.f 66 [] [])] K) = (bif okZ (3) R then K (DV.c (D.v (Value.bool (decide (idxF (toZ R) ≥ 0))))) else False) := by kernel_rfl
def sCon : Spec := fun ds Q => match ds with | [.c (.s 0 3 R sp), .c (.f 66 [] [])] => cond (okZ 3 R) (Q (B (badW (toZ R)))) False | _ => False
theorem oCon : SpecOK Try.prog 67 sCon := o_of Try.func67 (by kernel_rfl) rfl fun ds Q h => by
  unfold sCon at h; split at h
  · obtain ⟨h1, h2⟩ := cond_P h
    refine ⟨_, ct_ask (.cons oIx .nil) mixed Try.func67 rfl rfl rfl ?_, rfl, rfl, h2⟩
    rw [eCon, h1, idx_any]; rfl
  · exact h.elim
/-! ### arenas -/
abbrev dA (R0 p0 R1 p1 R2 p2 R3 p3 : List (List D)) : DV := .agg [.s 0 3 R0 p0, .s 0 3 R1 p1, .s 0 3 R2 p2, .s 0 3 R3 p3]
def rowMay (l : List (List Int)) : Bool := !(decide (l.length > 4) || badW l)
def amay (a b c d : List (List Int)) : Bool := rowMay a && (rowMay b && (rowMay c && rowMay d))
theorem eAMay (R0 p0 R1 p1 R2 p2 R3 p3 : List (List D)) (K : DV → Prop) : (ask Try.prog [(67, sCon)] Try.f28 [dA R0 p0 R1 p1 R2 p2 R3 p3] K) = (bif decide (@Nat.cast Int _ (List.length R0) > 4) then K (DV.c (D.v (Value.bool false))) else bif okZ (3) R0 then bif badW (toZ R0) then K (DV.c (D.v (Value.bool false))) else bif decide (@Nat.cast Int _ (List.length R1) > 4) then K (DV.c (D.v (Value.bool false))) else bif okZ (3) R1 then bif badW (toZ R1) then K (DV.c (D.v (Value.bool false))) else bif decide (@Nat.cast Int _ (List.length R2) > 4) then K (DV.c (D.v (Value.bool false))) else bif okZ (3) R2 then bif badW (toZ R2) then K (DV.c (D.v (Value.bool false))) else bif decide (@Nat.cast Int _ (List.length R3) > 4) then K (DV.c (D.v (Value.bool false))) else bif okZ (3) R3 then bif badW (toZ R3) then K (DV.c (D.v (Value.bool false))) else K (DV.c (D.v (Value.bool true))) else False else False else False else False) := by kernel_rfl
end Vm
