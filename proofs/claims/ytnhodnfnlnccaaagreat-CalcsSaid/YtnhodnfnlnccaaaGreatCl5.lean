/- An interpreter for Go's texts over plain data, its proof, and what it says of the functions that the law reaches. My own work. -/
import Derived.Test.YtnhodnfnlnccaaaGreatCl4
set_option linter.unusedSimpArgs false
set_option linter.unusedVariables false
set_option maxRecDepth 100000
set_option maxHeartbeats 2000000
namespace Vm
section
open Go Go.Proofs
theorem Zez {α : Type} (l : List α) (p : α → Bool) : decide ((match l.findIdx? p with | some i => (i : Int) | none => -1) ≥ 0) = l.any p := by
  cases h : l.findIdx? p with
  | some i =>
    have : l.any p = true := by
      rw [List.findIdx?_eq_some_iff_getElem] at h
      obtain ⟨h1, h2, _⟩ := h
      exact List.any_eq_true.2 ⟨_, List.getElem_mem h1, h2⟩
    rw [this]; simp
  | none =>
    have : l.any p = false := by
      rw [List.findIdx?_eq_none_iff] at h
      rw [List.any_eq_false]; intro x hx; simpa using h x hx
    rw [this]; rfl
def thW (R0 R1 R2 R3 : List (List D)) (x y : Int) : Bool := thr R0.length R1.length R2.length R3.length x y
def ZgN (fn : Nat) (e : D) (K : List (List D) → List (List D) → List (List D) → List (List D) → Prop) : Prop := match e with
  | .f g fs cs => match Nat.beq g fn with
    | true => match fs, cs with
      | [x], [] => match x with
        | .f h gs ps => match Nat.beq h AG with
          | true => match gs, ps with
            | [], [p] => ZlO p K
            | _, _ => False
          | false => False
        | _ => False
      | _, _ => False
    | false => False
  | _ => False
theorem Zcg {fn : Nat} {e : D} {K : List (List D) → List (List D) → List (List D) → List (List D) → Prop} (hn : fn ≠ AG) (h : ZgN fn e K) : ∃ a b c d, K a b c d ∧ RD e (.f fn [.f AG [] [.p 0 (wsL a b c d) 0]] []) ∧ e.isOwn = false := by
  unfold ZgN at h
  split at h
  · split at h
    · rename_i hb
      have := Zab hb; subst this
      split at h
      · split at h
        · split at h
          · rename_i hb2
            have := Zab hb2; subst this
            split at h
            · obtain ⟨a, b, c, d, h, r, _⟩ := ZfW h
              exact ⟨a, b, c, d, h, RD.f (.cons (RD.ag (.cons r .nil)) .nil) .nil hn, rfl⟩
            · exact h.elim
          · exact h.elim
        · exact h.elim
      · exact h.elim
    · exact h.elim
  · exact h.elim
def isRW (c : Int) : Bool := bif c == 2 then true else c == 3
theorem eIWd (a b c d : Int) (K : DV → Prop) : (ask Tryz.prog [] Tryz.f162 [.agg [vi a, vi b, vi c, vi d]] K) = (bif a == 2 then K (DV.c (D.v (Value.bool true))) else K (DV.c (D.v (Value.bool (a == 3))))) := by kernel_rfl
def sIWd : Spec := fun ds Q => match ds with | [.agg [.v (.int .i64 a), .v (.int .i64 b), .v (.int .i64 c), .v (.int .i64 d)]] => Q (B (isRW a)) | _ => False
theorem oIWd : Zad Tryz.prog 162 sIWd := o_of Tryz.func162 (by kernel_rfl) rfl fun ds Q h => by
  unfold sIWd at h; split at h
  · rename_i a b c d
    refine ⟨_, Zaj .nil mixed Tryz.func162 rfl rfl rfl ?_, rfl, rfl, h⟩
    rw [eIWd]; unfold isRW; cases a == 2 <;> rfl
  · exact h.elim
def noRd (R0 R1 R2 R3 : List (List D)) (r : List Int) : Bool := !thW R0 R1 R2 R3 (r.getD 0 0) (r.getD 1 0)
theorem eLR (a b c : Int) (R0 R1 R2 R3 : List (List D)) (K : DV → Prop) : (ask Tryz.prog [(157, sThr)] Tryz.f108 [.agg [.p 0 [.s 0 3 R0 [], .s 0 3 R1 [], .s 0 3 R2 [], .s 0 3 R3 []] 0], .agg [vi a, vi b, vi c]] K) = (K (DV.c (D.v (Value.bool (thr (List.length R0) (List.length R1) (List.length R2) (List.length R3) a b))))) := by kernel_rfl
def sLR : Spec := fun ds Q => match ds with | [.agg [.p 0 [.s 0 3 R0 [], .s 0 3 R1 [], .s 0 3 R2 [], .s 0 3 R3 []] 0], .agg [.v (.int .i64 a), .v (.int .i64 b), .v (.int .i64 c)]] => Q (B (!noRd R0 R1 R2 R3 [a, b, c])) | _ => False
theorem oLR : Zad Tryz.prog 108 sLR := o_of Tryz.func108 (by kernel_rfl) rfl fun ds Q h => by
  unfold sLR at h; split at h
  · rename_i R0 R1 R2 R3 a b c
    refine ⟨_, Zaj ((.cons oThr .nil)) mixed Tryz.func108 rfl rfl rfl ?_, rfl, rfl, h⟩
    rw [eLR]; unfold noRd thW; simp only [List.getD_cons_zero, List.getD_cons_succ, Bool.not_not]
    try (cases isRW a <;> simp)
  · exact h.elim
theorem eLR1 (a b c : Int) (R0 R1 R2 R3 : List (List D)) (K : DV → Prop) : (ask Tryz.prog [(108, sLR)] Tryz.f156 [.agg [vi a, vi b, vi c], .c (.p 0 [.f 108 [.f 4294967295 [] [.p 0 [.s 0 3 R0 [], .s 0 3 R1 [], .s 0 3 R2 [], .s 0 3 R3 []] 0]] []] 0)] K) = (K (DV.c (D.v (Value.bool !!noRd R0 R1 R2 R3 [a, b, c])))) := by kernel_rfl
def sLR1 : Spec := fun ds Q => match ds with | [.agg [.v (.int .i64 a), .v (.int .i64 b), .v (.int .i64 c)], .c (.p 0 [.f 108 [.f 4294967295 [] [.p 0 [.s 0 3 R0 [], .s 0 3 R1 [], .s 0 3 R2 [], .s 0 3 R3 []] 0]] []] 0)] => Q (B (noRd R0 R1 R2 R3 [a, b, c])) | _ => False
theorem oLR1 : Zad Tryz.prog 156 sLR1 := o_of Tryz.func156 (by kernel_rfl) rfl fun ds Q h => by
  unfold sLR1 at h; split at h
  · exact ⟨_, Zaj (.cons oLR .nil) mixed Tryz.func156 rfl rfl rfl (by rw [eLR1, Bool.not_not]), rfl, rfl, h⟩
  · exact h.elim
def ZdX (R0 : List (List D)) (R1 : List (List D)) (R2 : List (List D)) (R3 : List (List D)) (R : List (List D)) (sp : List (List D)) (v : Int) (i : Int) : X := ⟨mkT 19 [(0, aS 3 R sp), (1, .c (.d (.f 156 [] [.p 0 [.f 108 [.f 4294967295 [] [.p 0 [.s 0 3 R0 [], .s 0 3 R1 [], .s 0 3 R2 [], .s 0 3 R3 []] 0]] []] 0]))), (4, ai v), (7, ai R.length), (8, ai i)], [], [], []⟩
def Zfa (R0 : List (List D)) (R1 : List (List D)) (R2 : List (List D)) (R3 : List (List D)) (R : List (List D)) (sp : List (List D)) : Vw := fun y K => wI y 4 fun v => wI y 8 fun i => K (ZdX R0 R1 R2 R3 R sp v i)
theorem Zhl (R0 : List (List D)) (R1 : List (List D)) (R2 : List (List D)) (R3 : List (List D)) (R : List (List D)) (sp : List (List D)) : VwOK (Zfa R0 R1 R2 R3 R sp) := fun y K h => by
  unfold Zfa at h
  obtain ⟨v, h⟩ := Zcw h
  obtain ⟨i, h⟩ := Zcw h
  exact ⟨_, h⟩
theorem Zud (R0 : List (List D)) (R1 : List (List D)) (R2 : List (List D)) (R3 : List (List D)) (R sp : List (List D)) (i v : Int) (N : X → Prop) (E : Exit → X → Prop) : (Zcr Tryz.prog (hkA band bor [(156, sLR1)] []) Tryz.f185 0 [] [0, 1, 4, 7, 8] [] (Zfa R0 R1 R2 R3 R sp) (Zfa R0 R1 R2 R3 R sp) N E (ZdX R0 R1 R2 R3 R sp v i)) = (bif decide (i < @Nat.cast Int _ (List.length R)) then bif decide (0 ≤ i) && decide (i < @Nat.cast Int _ (List.length R)) then bif isJ [IntKind.i64, IntKind.i64, IntKind.i64] (List.drop (0) (List.getD R (Int.toNat i) [])) then bif noRd R0 R1 R2 R3 [hdJ (List.drop (0) (List.getD R (Int.toNat i) [])), hdJ (List.tail (List.drop (0) (List.getD R (Int.toNat i) []))), hdJ (List.tail (List.tail (List.drop (0) (List.getD R (Int.toNat i) []))))] then ZdX R0 R1 R2 R3 R sp i i = ZdX R0 R1 R2 R3 R sp i i ∧ E Exit.ret (ZdX R0 R1 R2 R3 R sp i i) else ZdX R0 R1 R2 R3 R sp v (IntKind.wrap IntKind.i64 (i + 1)) = ZdX R0 R1 R2 R3 R sp v (IntKind.wrap IntKind.i64 (i + 1)) ∧ N (ZdX R0 R1 R2 R3 R sp v (IntKind.wrap IntKind.i64 (i + 1))) else False else False else ZdX R0 R1 R2 R3 R sp v i = ZdX R0 R1 R2 R3 R sp v i ∧ E (Exit.exit (0)) (ZdX R0 R1 R2 R3 R sp v i)) := by kernel_rfl
def Zsg (R0 : List (List D)) (R1 : List (List D)) (R2 : List (List D)) (R3 : List (List D)) (l : List (List Int)) (sp : List (List D)) : LSum := Zdf [0, 1, 4, 7, 8] [] (fun i => ZdX R0 R1 R2 R3 (mZ l) sp 0 i) (fun i => ZdX R0 R1 R2 R3 (mZ l) sp i i) l.length (fun i => noRd R0 R1 R2 R3 (l.getD i [])) .ret (.exit 0)
theorem Zv4 (R0 : List (List D)) (R1 : List (List D)) (R2 : List (List D)) (R3 : List (List D)) (l : List (List Int)) (sp : List (List D)) (K : DV → Prop) : (askL Tryz.prog [] [(2, Zsg R0 R1 R2 R3 l sp)] Tryz.f185 [dS 3 (mZ l) sp, .c (.f 156 [] [.p 0 [.f 108 [.f 4294967295 [] [.p 0 [.s 0 3 R0 [], .s 0 3 R1 [], .s 0 3 R2 [], .s 0 3 R3 []] 0]] []] 0])] K) = (ZdX R0 R1 R2 R3 (mZ l) sp (0) (0) = ZdX R0 R1 R2 R3 (mZ l) sp (0) (0) ∧ (∀ (i : Nat), firstAt (fun i => noRd R0 R1 R2 R3 (List.getD l i [])) (List.length l) i → K (DV.c (D.v (Value.int IntKind.i64 (@Nat.cast Int _ i))))) ∧ (noneTo (fun i => noRd R0 R1 R2 R3 (List.getD l i [])) (List.length l) → K (DV.c (D.v (Value.int IntKind.i64 (-1)))))) := by kernel_rfl
theorem ZvH (R0 : List (List D)) (R1 : List (List D)) (R2 : List (List D)) (R3 : List (List D)) {l : List (List Int)} {sp : List (List D)} (hw : wid 3 l) (hn : l.length ≤ 9223372036854775807) (Q : Exit → X → Prop) (x : X) (h : Zsg R0 R1 R2 R3 l sp Q x) : XWP Tryz.prog (.loop (Zaq Tryz.f185 0)) Q x := by
  refine Zb2 (H := hkA band bor [(156, sLR1)] []) (sw := []) (V := Zfa R0 R1 R2 R3 (mZ l) sp) (VE := Zfa R0 R1 R2 R3 (mZ l) sp) (ZaK (.cons oLR1 .nil)) mixed (Zai rfl) (Zhl R0 R1 R2 R3 (mZ l) sp) (Zhl R0 R1 R2 R3 (mZ l) sp) _ _ _ _ _ _ (fun i hl N E h1 h2 => ?_) (fun N E h1 => ?_) Q x h
  · rw [Zud]
    have wi : IntKind.wrap .i64 ((i : Int) + 1) = ((i + 1 : Nat) : Int) := Zam (n := 1) (by omega)
    have hj1 : isJ [IntKind.i64, IntKind.i64, IntKind.i64] ((mZ l).getD i []) = true := Zas (j := 0) (n := 3) hw hl (by omega)
    simp only [Zah, Int.ofNat_lt, hl, decide_true, cond_true, Int.natCast_nonneg, Bool.and_self, Int.toNat_natCast, ZaQ, ZaS, Zbh, hj1, List.drop_zero, ZaM, true_and, wi]
    have e : noRd R0 R1 R2 R3 (l.getD i []) = noRd R0 R1 R2 R3 [(l.getD i []).getD 0 0, (l.getD i []).getD 1 0, (l.getD i []).getD 2 0] := rfl
    cases ho : noRd R0 R1 R2 R3 (l.getD i []) with
    | false => rw [e] at ho; rw [ho]; exact h2 (by rw [e]; exact ho)
    | true => rw [e] at ho; rw [ho]; exact h1 (by rw [e]; exact ho)
  · rw [Zud]
    simp only [Zah, Int.ofNat_lt, Nat.lt_irrefl, decide_false, cond_false, true_and]
    exact h1
def ZrR : Spec := fun ds Q => match ds with | [.c (.s 0 3 R sp), .c (.f 156 [] [.p 0 [.f 108 [.f 4294967295 [] [.p 0 [.s 0 3 R0 [], .s 0 3 R1 [], .s 0 3 R2 [], .s 0 3 R3 []] 0]] []] 0])] => cond (okZ 3 R) (Q (I (match (toZ R).findIdx? (noRd R0 R1 R2 R3) with | some i => (i : Int) | none => -1))) False | _ => False
theorem Zv1 : Zad Tryz.prog 185 ZrR := o_of Tryz.func185 (by kernel_rfl) rfl fun ds Q h => by
  unfold ZrR at h; split at h
  · rename_i R sp R0 R1 R2 R3
    obtain ⟨h1, h2⟩ := Zaf h
    obtain ⟨e1, w1, n1⟩ := Zag h1
    rw [e1]
    rw [← Zak R] at n1
    generalize toZ R = l at *
    refine ⟨_, ZaG (l := []) (m := [(2, Zsg R0 R1 R2 R3 l sp)]) .nil mixed (Za7 rfl (by kernel_rfl) (ZvH R0 R1 R2 R3 w1 n1)) Tryz.func185 rfl rfl rfl ?_, rfl, rfl, h2⟩
    rw [Zv4]
    refine ⟨rfl, fun i hi => ?_, fun hn => ?_⟩
    · rw [hi.find]
    · rw [hn.find]
  · exact h.elim
theorem Zwn (R0 : List (List D)) (R1 : List (List D)) (R2 : List (List D)) (R3 : List (List D)) (R sp : List (List D)) (K : DV → Prop) : (ask Tryz.prog [(185, ZrR)] Tryz.f154 [dS 3 R sp, .c (.f 156 [] [.p 0 [.f 108 [.f 4294967295 [] [.p 0 [.s 0 3 R0 [], .s 0 3 R1 [], .s 0 3 R2 [], .s 0 3 R3 []] 0]] []] 0])] K) = (bif okZ (3) R then K (DV.c (D.v (Value.bool (decide ((match List.findIdx? (noRd R0 R1 R2 R3) (toZ R) with | some i => @Nat.cast Int _ i | none => -1) ≥ 0))))) else False) := by kernel_rfl
def Zr6 : Spec := fun ds Q => match ds with | [.c (.s 0 3 R sp), .c (.f 156 [] [.p 0 [.f 108 [.f 4294967295 [] [.p 0 [.s 0 3 R0 [], .s 0 3 R1 [], .s 0 3 R2 [], .s 0 3 R3 []] 0]] []] 0])] => cond (okZ 3 R) (Q (B ((toZ R).any (noRd R0 R1 R2 R3)))) False | _ => False
theorem ZuP : Zad Tryz.prog 154 Zr6 := o_of Tryz.func154 (by kernel_rfl) rfl fun ds Q h => by
  unfold Zr6 at h; split at h
  · obtain ⟨h1, h2⟩ := Zaf h
    refine ⟨_, Zaj (.cons Zv1 .nil) mixed Tryz.func154 rfl rfl rfl ?_, rfl, rfl, h2⟩
    rw [Zwn, h1, Zez]; rfl
  · exact h.elim
theorem ZtN (R : List (List D)) (R0 R1 R2 R3 : List (List D)) (K : DV → Prop) : (ask Tryz.prog [(154, Zr6)] Tryz.f107 [.c (.s 0 3 R []), .c (.f 108 [.f 4294967295 [] [.p 0 (wsL R0 R1 R2 R3) 0]] [])] K) = (bif okZ (3) R then K (DV.c (D.v (Value.bool !List.any (toZ R) (noRd R0 R1 R2 R3)))) else False) := by kernel_rfl
def Zn5 : Spec := fun ds Q => match ds with | [.c d, .c e] => cond d.isOwn False (Zb5 3 d fun R => ZgN 108 e fun R0 R1 R2 R3 => cond (okZ 3 R) (Q (B (!(toZ R).any (noRd R0 R1 R2 R3)))) False) | _ => False
theorem Zun : Zad Tryz.prog 107 Zn5 := o_al Tryz.func107 (by kernel_rfl) rfl fun ds Q h => by
  unfold Zn5 at h; split at h
  · rename_i d e
    cases hd : d.isOwn with
    | true => rw [hd] at h; exact h.elim
    | false =>
      rw [hd] at h
      obtain ⟨R, h, r1⟩ := Zav h
      obtain ⟨R0, R1, R2, R3, h, r2, e2⟩ := Zcg (by decide) h
      obtain ⟨h1, h2⟩ := Zaf h
      refine ⟨_, _, .cons (.c r1 hd rfl) (.cons (.c r2 e2 rfl) .nil), Zaj (.cons ZuP .nil) mixed Tryz.func107 rfl rfl rfl ?_, rfl, rfl, h2⟩
      rw [ZtN, h1]; rfl
  · exact h.elim
def noWr (R0 R1 R2 R3 : List (List D)) (r : List Int) : Bool := !thW R0 R1 R2 R3 (r.getD 0 0) (r.getD 1 0)
theorem eLW (a b c : Int) (R0 R1 R2 R3 : List (List D)) (K : DV → Prop) : (ask Tryz.prog [(157, sThr)] Tryz.f110 [.agg [.p 0 [.s 0 3 R0 [], .s 0 3 R1 [], .s 0 3 R2 [], .s 0 3 R3 []] 0], .agg [vi a, vi b, vi c]] K) = (K (DV.c (D.v (Value.bool (thr (List.length R0) (List.length R1) (List.length R2) (List.length R3) a b))))) := by kernel_rfl
def sLW : Spec := fun ds Q => match ds with | [.agg [.p 0 [.s 0 3 R0 [], .s 0 3 R1 [], .s 0 3 R2 [], .s 0 3 R3 []] 0], .agg [.v (.int .i64 a), .v (.int .i64 b), .v (.int .i64 c)]] => Q (B (!noWr R0 R1 R2 R3 [a, b, c])) | _ => False
theorem oLW : Zad Tryz.prog 110 sLW := o_of Tryz.func110 (by kernel_rfl) rfl fun ds Q h => by
  unfold sLW at h; split at h
  · rename_i R0 R1 R2 R3 a b c
    refine ⟨_, Zaj ((.cons oThr .nil)) mixed Tryz.func110 rfl rfl rfl ?_, rfl, rfl, h⟩
    rw [eLW]; unfold noWr thW; simp only [List.getD_cons_zero, List.getD_cons_succ, Bool.not_not]
    try (cases isRW a <;> simp)
  · exact h.elim
theorem eLW1 (a b c : Int) (R0 R1 R2 R3 : List (List D)) (K : DV → Prop) : (ask Tryz.prog [(110, sLW)] Tryz.f159 [.agg [vi a, vi b, vi c], .c (.p 0 [.f 110 [.f 4294967295 [] [.p 0 [.s 0 3 R0 [], .s 0 3 R1 [], .s 0 3 R2 [], .s 0 3 R3 []] 0]] []] 0)] K) = (K (DV.c (D.v (Value.bool !!noWr R0 R1 R2 R3 [a, b, c])))) := by kernel_rfl
def sLW1 : Spec := fun ds Q => match ds with | [.agg [.v (.int .i64 a), .v (.int .i64 b), .v (.int .i64 c)], .c (.p 0 [.f 110 [.f 4294967295 [] [.p 0 [.s 0 3 R0 [], .s 0 3 R1 [], .s 0 3 R2 [], .s 0 3 R3 []] 0]] []] 0)] => Q (B (noWr R0 R1 R2 R3 [a, b, c])) | _ => False
theorem oLW1 : Zad Tryz.prog 159 sLW1 := o_of Tryz.func159 (by kernel_rfl) rfl fun ds Q h => by
  unfold sLW1 at h; split at h
  · exact ⟨_, Zaj (.cons oLW .nil) mixed Tryz.func159 rfl rfl rfl (by rw [eLW1, Bool.not_not]), rfl, rfl, h⟩
  · exact h.elim
def Zea (R0 : List (List D)) (R1 : List (List D)) (R2 : List (List D)) (R3 : List (List D)) (R : List (List D)) (sp : List (List D)) (v : Int) (i : Int) : X := ⟨mkT 19 [(0, aS 3 R sp), (1, .c (.d (.f 159 [] [.p 0 [.f 110 [.f 4294967295 [] [.p 0 [.s 0 3 R0 [], .s 0 3 R1 [], .s 0 3 R2 [], .s 0 3 R3 []] 0]] []] 0]))), (4, ai v), (7, ai R.length), (8, ai i)], [], [], []⟩
def ZeF (R0 : List (List D)) (R1 : List (List D)) (R2 : List (List D)) (R3 : List (List D)) (R : List (List D)) (sp : List (List D)) : Vw := fun y K => wI y 4 fun v => wI y 8 fun i => K (Zea R0 R1 R2 R3 R sp v i)
theorem Zhc (R0 : List (List D)) (R1 : List (List D)) (R2 : List (List D)) (R3 : List (List D)) (R : List (List D)) (sp : List (List D)) : VwOK (ZeF R0 R1 R2 R3 R sp) := fun y K h => by
  unfold ZeF at h
  obtain ⟨v, h⟩ := Zcw h
  obtain ⟨i, h⟩ := Zcw h
  exact ⟨_, h⟩
theorem Zs0 (R0 : List (List D)) (R1 : List (List D)) (R2 : List (List D)) (R3 : List (List D)) (R sp : List (List D)) (i v : Int) (N : X → Prop) (E : Exit → X → Prop) : (Zcr Tryz.prog (hkA band bor [(159, sLW1)] []) Tryz.f187 0 [] [0, 1, 4, 7, 8] [] (ZeF R0 R1 R2 R3 R sp) (ZeF R0 R1 R2 R3 R sp) N E (Zea R0 R1 R2 R3 R sp v i)) = (bif decide (i < @Nat.cast Int _ (List.length R)) then bif decide (0 ≤ i) && decide (i < @Nat.cast Int _ (List.length R)) then bif isJ [IntKind.i64, IntKind.i64, IntKind.i64] (List.drop (0) (List.getD R (Int.toNat i) [])) then bif noWr R0 R1 R2 R3 [hdJ (List.drop (0) (List.getD R (Int.toNat i) [])), hdJ (List.tail (List.drop (0) (List.getD R (Int.toNat i) []))), hdJ (List.tail (List.tail (List.drop (0) (List.getD R (Int.toNat i) []))))] then Zea R0 R1 R2 R3 R sp i i = Zea R0 R1 R2 R3 R sp i i ∧ E Exit.ret (Zea R0 R1 R2 R3 R sp i i) else Zea R0 R1 R2 R3 R sp v (IntKind.wrap IntKind.i64 (i + 1)) = Zea R0 R1 R2 R3 R sp v (IntKind.wrap IntKind.i64 (i + 1)) ∧ N (Zea R0 R1 R2 R3 R sp v (IntKind.wrap IntKind.i64 (i + 1))) else False else False else Zea R0 R1 R2 R3 R sp v i = Zea R0 R1 R2 R3 R sp v i ∧ E (Exit.exit (0)) (Zea R0 R1 R2 R3 R sp v i)) := by kernel_rfl
def Zr3 (R0 : List (List D)) (R1 : List (List D)) (R2 : List (List D)) (R3 : List (List D)) (l : List (List Int)) (sp : List (List D)) : LSum := Zdf [0, 1, 4, 7, 8] [] (fun i => Zea R0 R1 R2 R3 (mZ l) sp 0 i) (fun i => Zea R0 R1 R2 R3 (mZ l) sp i i) l.length (fun i => noWr R0 R1 R2 R3 (l.getD i [])) .ret (.exit 0)
theorem Zwm (R0 : List (List D)) (R1 : List (List D)) (R2 : List (List D)) (R3 : List (List D)) (l : List (List Int)) (sp : List (List D)) (K : DV → Prop) : (askL Tryz.prog [] [(2, Zr3 R0 R1 R2 R3 l sp)] Tryz.f187 [dS 3 (mZ l) sp, .c (.f 159 [] [.p 0 [.f 110 [.f 4294967295 [] [.p 0 [.s 0 3 R0 [], .s 0 3 R1 [], .s 0 3 R2 [], .s 0 3 R3 []] 0]] []] 0])] K) = (Zea R0 R1 R2 R3 (mZ l) sp (0) (0) = Zea R0 R1 R2 R3 (mZ l) sp (0) (0) ∧ (∀ (i : Nat), firstAt (fun i => noWr R0 R1 R2 R3 (List.getD l i [])) (List.length l) i → K (DV.c (D.v (Value.int IntKind.i64 (@Nat.cast Int _ i))))) ∧ (noneTo (fun i => noWr R0 R1 R2 R3 (List.getD l i [])) (List.length l) → K (DV.c (D.v (Value.int IntKind.i64 (-1)))))) := by kernel_rfl
theorem Zvf (R0 : List (List D)) (R1 : List (List D)) (R2 : List (List D)) (R3 : List (List D)) {l : List (List Int)} {sp : List (List D)} (hw : wid 3 l) (hn : l.length ≤ 9223372036854775807) (Q : Exit → X → Prop) (x : X) (h : Zr3 R0 R1 R2 R3 l sp Q x) : XWP Tryz.prog (.loop (Zaq Tryz.f187 0)) Q x := by
  refine Zb2 (H := hkA band bor [(159, sLW1)] []) (sw := []) (V := ZeF R0 R1 R2 R3 (mZ l) sp) (VE := ZeF R0 R1 R2 R3 (mZ l) sp) (ZaK (.cons oLW1 .nil)) mixed (Zai rfl) (Zhc R0 R1 R2 R3 (mZ l) sp) (Zhc R0 R1 R2 R3 (mZ l) sp) _ _ _ _ _ _ (fun i hl N E h1 h2 => ?_) (fun N E h1 => ?_) Q x h
  · rw [Zs0]
    have wi : IntKind.wrap .i64 ((i : Int) + 1) = ((i + 1 : Nat) : Int) := Zam (n := 1) (by omega)
    have hj1 : isJ [IntKind.i64, IntKind.i64, IntKind.i64] ((mZ l).getD i []) = true := Zas (j := 0) (n := 3) hw hl (by omega)
    simp only [Zah, Int.ofNat_lt, hl, decide_true, cond_true, Int.natCast_nonneg, Bool.and_self, Int.toNat_natCast, ZaQ, ZaS, Zbh, hj1, List.drop_zero, ZaM, true_and, wi]
    have e : noWr R0 R1 R2 R3 (l.getD i []) = noWr R0 R1 R2 R3 [(l.getD i []).getD 0 0, (l.getD i []).getD 1 0, (l.getD i []).getD 2 0] := rfl
    cases ho : noWr R0 R1 R2 R3 (l.getD i []) with
    | false => rw [e] at ho; rw [ho]; exact h2 (by rw [e]; exact ho)
    | true => rw [e] at ho; rw [ho]; exact h1 (by rw [e]; exact ho)
  · rw [Zs0]
    simp only [Zah, Int.ofNat_lt, Nat.lt_irrefl, decide_false, cond_false, true_and]
    exact h1
def Zsq : Spec := fun ds Q => match ds with | [.c (.s 0 3 R sp), .c (.f 159 [] [.p 0 [.f 110 [.f 4294967295 [] [.p 0 [.s 0 3 R0 [], .s 0 3 R1 [], .s 0 3 R2 [], .s 0 3 R3 []] 0]] []] 0])] => cond (okZ 3 R) (Q (I (match (toZ R).findIdx? (noWr R0 R1 R2 R3) with | some i => (i : Int) | none => -1))) False | _ => False
theorem ZvY : Zad Tryz.prog 187 Zsq := o_of Tryz.func187 (by kernel_rfl) rfl fun ds Q h => by
  unfold Zsq at h; split at h
  · rename_i R sp R0 R1 R2 R3
    obtain ⟨h1, h2⟩ := Zaf h
    obtain ⟨e1, w1, n1⟩ := Zag h1
    rw [e1]
    rw [← Zak R] at n1
    generalize toZ R = l at *
    refine ⟨_, ZaG (l := []) (m := [(2, Zr3 R0 R1 R2 R3 l sp)]) .nil mixed (Za7 rfl (by kernel_rfl) (Zvf R0 R1 R2 R3 w1 n1)) Tryz.func187 rfl rfl rfl ?_, rfl, rfl, h2⟩
    rw [Zwm]
    refine ⟨rfl, fun i hi => ?_, fun hn => ?_⟩
    · rw [hi.find]
    · rw [hn.find]
  · exact h.elim
theorem Zvd (R0 : List (List D)) (R1 : List (List D)) (R2 : List (List D)) (R3 : List (List D)) (R sp : List (List D)) (K : DV → Prop) : (ask Tryz.prog [(187, Zsq)] Tryz.f158 [dS 3 R sp, .c (.f 159 [] [.p 0 [.f 110 [.f 4294967295 [] [.p 0 [.s 0 3 R0 [], .s 0 3 R1 [], .s 0 3 R2 [], .s 0 3 R3 []] 0]] []] 0])] K) = (bif okZ (3) R then K (DV.c (D.v (Value.bool (decide ((match List.findIdx? (noWr R0 R1 R2 R3) (toZ R) with | some i => @Nat.cast Int _ i | none => -1) ≥ 0))))) else False) := by kernel_rfl
def ZsP : Spec := fun ds Q => match ds with | [.c (.s 0 3 R sp), .c (.f 159 [] [.p 0 [.f 110 [.f 4294967295 [] [.p 0 [.s 0 3 R0 [], .s 0 3 R1 [], .s 0 3 R2 [], .s 0 3 R3 []] 0]] []] 0])] => cond (okZ 3 R) (Q (B ((toZ R).any (noWr R0 R1 R2 R3)))) False | _ => False
theorem Zu5 : Zad Tryz.prog 158 ZsP := o_of Tryz.func158 (by kernel_rfl) rfl fun ds Q h => by
  unfold ZsP at h; split at h
  · obtain ⟨h1, h2⟩ := Zaf h
    refine ⟨_, Zaj (.cons ZvY .nil) mixed Tryz.func158 rfl rfl rfl ?_, rfl, rfl, h2⟩
    rw [Zvd, h1, Zez]; rfl
  · exact h.elim
theorem ZsV (R : List (List D)) (R0 R1 R2 R3 : List (List D)) (K : DV → Prop) : (ask Tryz.prog [(158, ZsP)] Tryz.f109 [.c (.s 0 3 R []), .c (.f 110 [.f 4294967295 [] [.p 0 (wsL R0 R1 R2 R3) 0]] [])] K) = (bif okZ (3) R then K (DV.c (D.v (Value.bool !List.any (toZ R) (noWr R0 R1 R2 R3)))) else False) := by kernel_rfl
def ZnN : Spec := fun ds Q => match ds with | [.c d, .c e] => cond d.isOwn False (Zb5 3 d fun R => ZgN 110 e fun R0 R1 R2 R3 => cond (okZ 3 R) (Q (B (!(toZ R).any (noWr R0 R1 R2 R3)))) False) | _ => False
theorem Zt7 : Zad Tryz.prog 109 ZnN := o_al Tryz.func109 (by kernel_rfl) rfl fun ds Q h => by
  unfold ZnN at h; split at h
  · rename_i d e
    cases hd : d.isOwn with
    | true => rw [hd] at h; exact h.elim
    | false =>
      rw [hd] at h
      obtain ⟨R, h, r1⟩ := Zav h
      obtain ⟨R0, R1, R2, R3, h, r2, e2⟩ := Zcg (by decide) h
      obtain ⟨h1, h2⟩ := Zaf h
      refine ⟨_, _, .cons (.c r1 hd rfl) (.cons (.c r2 e2 rfl) .nil), Zaj (.cons Zu5 .nil) mixed Tryz.func109 rfl rfl rfl ?_, rfl, rfl, h2⟩
      rw [ZsV, h1]; rfl
  · exact h.elim
def noIn (R0 R1 R2 R3 : List (List D)) (r : List Int) : Bool := isRW (r.getD 0 0) && !thW R0 R1 R2 R3 (r.getD 2 0) (r.getD 3 0)
theorem eLI (a b c d : Int) (R0 R1 R2 R3 : List (List D)) (K : DV → Prop) : (ask Tryz.prog [(162, sIWd), (157, sThr)] Tryz.f112 [.agg [.p 0 [.s 0 3 R0 [], .s 0 3 R1 [], .s 0 3 R2 [], .s 0 3 R3 []] 0], .agg [vi a, vi b, vi c, vi d]] K) = (bif !isRW a then K (DV.c (D.v (Value.bool true))) else K (DV.c (D.v (Value.bool (thr (List.length R0) (List.length R1) (List.length R2) (List.length R3) c d))))) := by kernel_rfl
def sLI : Spec := fun ds Q => match ds with | [.agg [.p 0 [.s 0 3 R0 [], .s 0 3 R1 [], .s 0 3 R2 [], .s 0 3 R3 []] 0], .agg [.v (.int .i64 a), .v (.int .i64 b), .v (.int .i64 c), .v (.int .i64 d)]] => Q (B (!noIn R0 R1 R2 R3 [a, b, c, d])) | _ => False
theorem oLI : Zad Tryz.prog 112 sLI := o_of Tryz.func112 (by kernel_rfl) rfl fun ds Q h => by
  unfold sLI at h; split at h
  · rename_i R0 R1 R2 R3 a b c d
    refine ⟨_, Zaj (.cons oIWd (.cons oThr .nil)) mixed Tryz.func112 rfl rfl rfl ?_, rfl, rfl, h⟩
    rw [eLI]; unfold noIn thW; simp only [List.getD_cons_zero, List.getD_cons_succ, Bool.not_not]
    try (cases isRW a <;> simp)
  · exact h.elim
theorem eLI1 (a b c d : Int) (R0 R1 R2 R3 : List (List D)) (K : DV → Prop) : (ask Tryz.prog [(112, sLI)] Tryz.f161 [.agg [vi a, vi b, vi c, vi d], .c (.p 0 [.f 112 [.f 4294967295 [] [.p 0 [.s 0 3 R0 [], .s 0 3 R1 [], .s 0 3 R2 [], .s 0 3 R3 []] 0]] []] 0)] K) = (K (DV.c (D.v (Value.bool !!noIn R0 R1 R2 R3 [a, b, c, d])))) := by kernel_rfl
def sLI1 : Spec := fun ds Q => match ds with | [.agg [.v (.int .i64 a), .v (.int .i64 b), .v (.int .i64 c), .v (.int .i64 d)], .c (.p 0 [.f 112 [.f 4294967295 [] [.p 0 [.s 0 3 R0 [], .s 0 3 R1 [], .s 0 3 R2 [], .s 0 3 R3 []] 0]] []] 0)] => Q (B (noIn R0 R1 R2 R3 [a, b, c, d])) | _ => False
theorem oLI1 : Zad Tryz.prog 161 sLI1 := o_of Tryz.func161 (by kernel_rfl) rfl fun ds Q h => by
  unfold sLI1 at h; split at h
  · exact ⟨_, Zaj (.cons oLI .nil) mixed Tryz.func161 rfl rfl rfl (by rw [eLI1, Bool.not_not]), rfl, rfl, h⟩
  · exact h.elim
def Zd7 (R0 : List (List D)) (R1 : List (List D)) (R2 : List (List D)) (R3 : List (List D)) (R : List (List D)) (sp : List (List D)) (v : Int) (i : Int) : X := ⟨mkT 19 [(0, aS 4 R sp), (1, .c (.d (.f 161 [] [.p 0 [.f 112 [.f 4294967295 [] [.p 0 [.s 0 3 R0 [], .s 0 3 R1 [], .s 0 3 R2 [], .s 0 3 R3 []] 0]] []] 0]))), (4, ai v), (7, ai R.length), (8, ai i)], [], [], []⟩
def ZeX (R0 : List (List D)) (R1 : List (List D)) (R2 : List (List D)) (R3 : List (List D)) (R : List (List D)) (sp : List (List D)) : Vw := fun y K => wI y 4 fun v => wI y 8 fun i => K (Zd7 R0 R1 R2 R3 R sp v i)
theorem Zhu (R0 : List (List D)) (R1 : List (List D)) (R2 : List (List D)) (R3 : List (List D)) (R : List (List D)) (sp : List (List D)) : VwOK (ZeX R0 R1 R2 R3 R sp) := fun y K h => by
  unfold ZeX at h
  obtain ⟨v, h⟩ := Zcw h
  obtain ⟨i, h⟩ := Zcw h
  exact ⟨_, h⟩
theorem ZtS (R0 : List (List D)) (R1 : List (List D)) (R2 : List (List D)) (R3 : List (List D)) (R sp : List (List D)) (i v : Int) (N : X → Prop) (E : Exit → X → Prop) : (Zcr Tryz.prog (hkA band bor [(161, sLI1)] []) Tryz.f188 0 [] [0, 1, 4, 7, 8] [] (ZeX R0 R1 R2 R3 R sp) (ZeX R0 R1 R2 R3 R sp) N E (Zd7 R0 R1 R2 R3 R sp v i)) = (bif decide (i < @Nat.cast Int _ (List.length R)) then bif decide (0 ≤ i) && decide (i < @Nat.cast Int _ (List.length R)) then bif isJ [IntKind.i64, IntKind.i64, IntKind.i64, IntKind.i64] (List.drop (0) (List.getD R (Int.toNat i) [])) then bif noIn R0 R1 R2 R3 [hdJ (List.drop (0) (List.getD R (Int.toNat i) [])), hdJ (List.tail (List.drop (0) (List.getD R (Int.toNat i) []))), hdJ (List.tail (List.tail (List.drop (0) (List.getD R (Int.toNat i) [])))), hdJ (List.tail (List.tail (List.tail (List.drop (0) (List.getD R (Int.toNat i) [])))))] then Zd7 R0 R1 R2 R3 R sp i i = Zd7 R0 R1 R2 R3 R sp i i ∧ E Exit.ret (Zd7 R0 R1 R2 R3 R sp i i) else Zd7 R0 R1 R2 R3 R sp v (IntKind.wrap IntKind.i64 (i + 1)) = Zd7 R0 R1 R2 R3 R sp v (IntKind.wrap IntKind.i64 (i + 1)) ∧ N (Zd7 R0 R1 R2 R3 R sp v (IntKind.wrap IntKind.i64 (i + 1))) else False else False else Zd7 R0 R1 R2 R3 R sp v i = Zd7 R0 R1 R2 R3 R sp v i ∧ E (Exit.exit (0)) (Zd7 R0 R1 R2 R3 R sp v i)) := by kernel_rfl
def ZrZ (R0 : List (List D)) (R1 : List (List D)) (R2 : List (List D)) (R3 : List (List D)) (l : List (List Int)) (sp : List (List D)) : LSum := Zdf [0, 1, 4, 7, 8] [] (fun i => Zd7 R0 R1 R2 R3 (mZ l) sp 0 i) (fun i => Zd7 R0 R1 R2 R3 (mZ l) sp i i) l.length (fun i => noIn R0 R1 R2 R3 (l.getD i [])) .ret (.exit 0)
theorem ZuL (R0 : List (List D)) (R1 : List (List D)) (R2 : List (List D)) (R3 : List (List D)) (l : List (List Int)) (sp : List (List D)) (K : DV → Prop) : (askL Tryz.prog [] [(2, ZrZ R0 R1 R2 R3 l sp)] Tryz.f188 [dS 4 (mZ l) sp, .c (.f 161 [] [.p 0 [.f 112 [.f 4294967295 [] [.p 0 [.s 0 3 R0 [], .s 0 3 R1 [], .s 0 3 R2 [], .s 0 3 R3 []] 0]] []] 0])] K) = (Zd7 R0 R1 R2 R3 (mZ l) sp (0) (0) = Zd7 R0 R1 R2 R3 (mZ l) sp (0) (0) ∧ (∀ (i : Nat), firstAt (fun i => noIn R0 R1 R2 R3 (List.getD l i [])) (List.length l) i → K (DV.c (D.v (Value.int IntKind.i64 (@Nat.cast Int _ i))))) ∧ (noneTo (fun i => noIn R0 R1 R2 R3 (List.getD l i [])) (List.length l) → K (DV.c (D.v (Value.int IntKind.i64 (-1)))))) := by kernel_rfl
theorem Zvo (R0 : List (List D)) (R1 : List (List D)) (R2 : List (List D)) (R3 : List (List D)) {l : List (List Int)} {sp : List (List D)} (hw : wid 4 l) (hn : l.length ≤ 9223372036854775807) (Q : Exit → X → Prop) (x : X) (h : ZrZ R0 R1 R2 R3 l sp Q x) : XWP Tryz.prog (.loop (Zaq Tryz.f188 0)) Q x := by
  refine Zb2 (H := hkA band bor [(161, sLI1)] []) (sw := []) (V := ZeX R0 R1 R2 R3 (mZ l) sp) (VE := ZeX R0 R1 R2 R3 (mZ l) sp) (ZaK (.cons oLI1 .nil)) mixed (Zai rfl) (Zhu R0 R1 R2 R3 (mZ l) sp) (Zhu R0 R1 R2 R3 (mZ l) sp) _ _ _ _ _ _ (fun i hl N E h1 h2 => ?_) (fun N E h1 => ?_) Q x h
  · rw [ZtS]
    have wi : IntKind.wrap .i64 ((i : Int) + 1) = ((i + 1 : Nat) : Int) := Zam (n := 1) (by omega)
    have hj1 : isJ [IntKind.i64, IntKind.i64, IntKind.i64, IntKind.i64] ((mZ l).getD i []) = true := Zas (j := 0) (n := 4) hw hl (by omega)
    simp only [Zah, Int.ofNat_lt, hl, decide_true, cond_true, Int.natCast_nonneg, Bool.and_self, Int.toNat_natCast, ZaQ, ZaS, Zbh, hj1, List.drop_zero, ZaM, true_and, wi]
    have e : noIn R0 R1 R2 R3 (l.getD i []) = noIn R0 R1 R2 R3 [(l.getD i []).getD 0 0, (l.getD i []).getD 1 0, (l.getD i []).getD 2 0, (l.getD i []).getD 3 0] := rfl
    cases ho : noIn R0 R1 R2 R3 (l.getD i []) with
    | false => rw [e] at ho; rw [ho]; exact h2 (by rw [e]; exact ho)
    | true => rw [e] at ho; rw [ho]; exact h1 (by rw [e]; exact ho)
  · rw [ZtS]
    simp only [Zah, Int.ofNat_lt, Nat.lt_irrefl, decide_false, cond_false, true_and]
    exact h1
def Zsj : Spec := fun ds Q => match ds with | [.c (.s 0 4 R sp), .c (.f 161 [] [.p 0 [.f 112 [.f 4294967295 [] [.p 0 [.s 0 3 R0 [], .s 0 3 R1 [], .s 0 3 R2 [], .s 0 3 R3 []] 0]] []] 0])] => cond (okZ 4 R) (Q (I (match (toZ R).findIdx? (noIn R0 R1 R2 R3) with | some i => (i : Int) | none => -1))) False | _ => False
theorem Zv7 : Zad Tryz.prog 188 Zsj := o_of Tryz.func188 (by kernel_rfl) rfl fun ds Q h => by
  unfold Zsj at h; split at h
  · rename_i R sp R0 R1 R2 R3
    obtain ⟨h1, h2⟩ := Zaf h
    obtain ⟨e1, w1, n1⟩ := Zag h1
    rw [e1]
    rw [← Zak R] at n1
    generalize toZ R = l at *
    refine ⟨_, ZaG (l := []) (m := [(2, ZrZ R0 R1 R2 R3 l sp)]) .nil mixed (Za7 rfl (by kernel_rfl) (Zvo R0 R1 R2 R3 w1 n1)) Tryz.func188 rfl rfl rfl ?_, rfl, rfl, h2⟩
    rw [ZuL]
    refine ⟨rfl, fun i hi => ?_, fun hn => ?_⟩
    · rw [hi.find]
    · rw [hn.find]
  · exact h.elim
theorem ZuC (R0 : List (List D)) (R1 : List (List D)) (R2 : List (List D)) (R3 : List (List D)) (R sp : List (List D)) (K : DV → Prop) : (ask Tryz.prog [(188, Zsj)] Tryz.f160 [dS 4 R sp, .c (.f 161 [] [.p 0 [.f 112 [.f 4294967295 [] [.p 0 [.s 0 3 R0 [], .s 0 3 R1 [], .s 0 3 R2 [], .s 0 3 R3 []] 0]] []] 0])] K) = (bif okZ (4) R then K (DV.c (D.v (Value.bool (decide ((match List.findIdx? (noIn R0 R1 R2 R3) (toZ R) with | some i => @Nat.cast Int _ i | none => -1) ≥ 0))))) else False) := by kernel_rfl
def Zrr : Spec := fun ds Q => match ds with | [.c (.s 0 4 R sp), .c (.f 161 [] [.p 0 [.f 112 [.f 4294967295 [] [.p 0 [.s 0 3 R0 [], .s 0 3 R1 [], .s 0 3 R2 [], .s 0 3 R3 []] 0]] []] 0])] => cond (okZ 4 R) (Q (B ((toZ R).any (noIn R0 R1 R2 R3)))) False | _ => False
theorem Zwg : Zad Tryz.prog 160 Zrr := o_of Tryz.func160 (by kernel_rfl) rfl fun ds Q h => by
  unfold Zrr at h; split at h
  · obtain ⟨h1, h2⟩ := Zaf h
    refine ⟨_, Zaj (.cons Zv7 .nil) mixed Tryz.func160 rfl rfl rfl ?_, rfl, rfl, h2⟩
    rw [ZuC, h1, Zez]; rfl
  · exact h.elim
theorem ZtA (R : List (List D)) (R0 R1 R2 R3 : List (List D)) (K : DV → Prop) : (ask Tryz.prog [(160, Zrr)] Tryz.f111 [.c (.s 0 4 R []), .c (.f 112 [.f 4294967295 [] [.p 0 (wsL R0 R1 R2 R3) 0]] [])] K) = (bif okZ (4) R then K (DV.c (D.v (Value.bool !List.any (toZ R) (noIn R0 R1 R2 R3)))) else False) := by kernel_rfl
def Zpi : Spec := fun ds Q => match ds with | [.c d, .c e] => cond d.isOwn False (Zb5 4 d fun R => ZgN 112 e fun R0 R1 R2 R3 => cond (okZ 4 R) (Q (B (!(toZ R).any (noIn R0 R1 R2 R3)))) False) | _ => False
theorem Ztz : Zad Tryz.prog 111 Zpi := o_al Tryz.func111 (by kernel_rfl) rfl fun ds Q h => by
  unfold Zpi at h; split at h
  · rename_i d e
    cases hd : d.isOwn with
    | true => rw [hd] at h; exact h.elim
    | false =>
      rw [hd] at h
      obtain ⟨R, h, r1⟩ := Zav h
      obtain ⟨R0, R1, R2, R3, h, r2, e2⟩ := Zcg (by decide) h
      obtain ⟨h1, h2⟩ := Zaf h
      refine ⟨_, _, .cons (.c r1 hd rfl) (.cons (.c r2 e2 rfl) .nil), Zaj (.cons Zwg .nil) mixed Tryz.func111 rfl rfl rfl ?_, rfl, rfl, h2⟩
      rw [ZtA, h1]; rfl
  · exact h.elim
theorem eLE (a b c d : Int) (K : DV → Prop) : (ask Tryz.prog [(64, sB lab)] Tryz.f63 [.agg [vi a, vi b, vi c, vi d]] K) = (K (DV.c (D.v (Value.bool (lab b))))) := by kernel_rfl
def sLE : Spec := fun ds Q => match ds with | [.agg [.v (.int .i64 a), .v (.int .i64 b), .v (.int .i64 c), .v (.int .i64 d)]] => Q (B (lab b)) | _ => False
theorem oLE : Zad Tryz.prog 63 sLE := o_of Tryz.func63 (by kernel_rfl) rfl fun ds Q h => by
  unfold sLE at h; split at h
  · exact ⟨_, Zaj (.cons oLab .nil) mixed Tryz.func63 rfl rfl rfl (by rw [eLE]), rfl, rfl, h⟩
  · exact h.elim
def noEv (r : List Int) : Bool := !lab (r.getD 1 0)
theorem eLE1 (a b c d : Int) (K : DV → Prop) : (ask Tryz.prog [(63, sLE)] Tryz.f117 [.agg [vi a, vi b, vi c, vi d], .c (.p 0 [.f 63 [] []] 0)] K) = (K (DV.c (D.v (Value.bool !lab b)))) := by kernel_rfl
def sLE1 : Spec := fun ds Q => match ds with | [.agg [.v (.int .i64 a), .v (.int .i64 b), .v (.int .i64 c), .v (.int .i64 d)], .c (.p 0 [.f 63 [] []] 0)] => Q (B (noEv [a, b, c, d])) | _ => False
theorem oLE1 : Zad Tryz.prog 117 sLE1 := o_of Tryz.func117 (by kernel_rfl) rfl fun ds Q h => by
  unfold sLE1 at h; split at h
  · exact ⟨_, Zaj (.cons oLE .nil) mixed Tryz.func117 rfl rfl rfl (by rw [eLE1]; rfl), rfl, rfl, h⟩
  · exact h.elim
def Zee (R : List (List D)) (sp : List (List D)) (v : Int) (i : Int) : X := ⟨mkT 19 [(0, aS 4 R sp), (1, .c (.d (.f 117 [] [.p 0 [.f 63 [] []] 0]))), (4, ai v), (7, ai R.length), (8, ai i)], [], [], []⟩
def ZeJ (R : List (List D)) (sp : List (List D)) : Vw := fun y K => wI y 4 fun v => wI y 8 fun i => K (Zee R sp v i)
theorem Zhn (R : List (List D)) (sp : List (List D)) : VwOK (ZeJ R sp) := fun y K h => by
  unfold ZeJ at h
  obtain ⟨v, h⟩ := Zcw h
  obtain ⟨i, h⟩ := Zcw h
  exact ⟨_, h⟩
theorem ZuA  (R sp : List (List D)) (i v : Int) (N : X → Prop) (E : Exit → X → Prop) : (Zcr Tryz.prog (hkA band bor [(117, sLE1)] []) Tryz.f163 0 [] [0, 1, 4, 7, 8] [] (ZeJ  R sp) (ZeJ  R sp) N E (Zee  R sp v i)) = (bif decide (i < @Nat.cast Int _ (List.length R)) then bif decide (0 ≤ i) && decide (i < @Nat.cast Int _ (List.length R)) then bif isJ [IntKind.i64, IntKind.i64, IntKind.i64, IntKind.i64] (List.drop (0) (List.getD R (Int.toNat i) [])) then bif noEv [hdJ (List.drop (0) (List.getD R (Int.toNat i) [])), hdJ (List.tail (List.drop (0) (List.getD R (Int.toNat i) []))), hdJ (List.tail (List.tail (List.drop (0) (List.getD R (Int.toNat i) [])))), hdJ (List.tail (List.tail (List.tail (List.drop (0) (List.getD R (Int.toNat i) [])))))] then Zee R sp i i = Zee R sp i i ∧ E Exit.ret (Zee R sp i i) else Zee R sp v (IntKind.wrap IntKind.i64 (i + 1)) = Zee R sp v (IntKind.wrap IntKind.i64 (i + 1)) ∧ N (Zee R sp v (IntKind.wrap IntKind.i64 (i + 1))) else False else False else Zee R sp v i = Zee R sp v i ∧ E (Exit.exit (0)) (Zee R sp v i)) := by kernel_rfl
def Zrs  (l : List (List Int)) (sp : List (List D)) : LSum := Zdf [0, 1, 4, 7, 8] [] (fun i => Zee  (mZ l) sp 0 i) (fun i => Zee  (mZ l) sp i i) l.length (fun i => noEv  (l.getD i [])) .ret (.exit 0)
theorem ZvZ  (l : List (List Int)) (sp : List (List D)) (K : DV → Prop) : (askL Tryz.prog [] [(2, Zrs  l sp)] Tryz.f163 [dS 4 (mZ l) sp, .c (.f 117 [] [.p 0 [.f 63 [] []] 0])] K) = (Zee (mZ l) sp (0) (0) = Zee (mZ l) sp (0) (0) ∧ (∀ (i : Nat), firstAt (fun i => noEv (List.getD l i [])) (List.length l) i → K (DV.c (D.v (Value.int IntKind.i64 (@Nat.cast Int _ i))))) ∧ (noneTo (fun i => noEv (List.getD l i [])) (List.length l) → K (DV.c (D.v (Value.int IntKind.i64 (-1)))))) := by kernel_rfl
theorem Zu3  {l : List (List Int)} {sp : List (List D)} (hw : wid 4 l) (hn : l.length ≤ 9223372036854775807) (Q : Exit → X → Prop) (x : X) (h : Zrs  l sp Q x) : XWP Tryz.prog (.loop (Zaq Tryz.f163 0)) Q x := by
  refine Zb2 (H := hkA band bor [(117, sLE1)] []) (sw := []) (V := ZeJ  (mZ l) sp) (VE := ZeJ  (mZ l) sp) (ZaK (.cons oLE1 .nil)) mixed (Zai rfl) (Zhn  (mZ l) sp) (Zhn  (mZ l) sp) _ _ _ _ _ _ (fun i hl N E h1 h2 => ?_) (fun N E h1 => ?_) Q x h
  · rw [ZuA]
    have wi : IntKind.wrap .i64 ((i : Int) + 1) = ((i + 1 : Nat) : Int) := Zam (n := 1) (by omega)
    have hj1 : isJ [IntKind.i64, IntKind.i64, IntKind.i64, IntKind.i64] ((mZ l).getD i []) = true := Zas (j := 0) (n := 4) hw hl (by omega)
    simp only [Zah, Int.ofNat_lt, hl, decide_true, cond_true, Int.natCast_nonneg, Bool.and_self, Int.toNat_natCast, ZaQ, ZaS, Zbh, hj1, List.drop_zero, ZaM, true_and, wi]
    have e : noEv  (l.getD i []) = noEv  [(l.getD i []).getD 0 0, (l.getD i []).getD 1 0, (l.getD i []).getD 2 0, (l.getD i []).getD 3 0] := rfl
    cases ho : noEv  (l.getD i []) with
    | false => rw [e] at ho; rw [ho]; exact h2 (by rw [e]; exact ho)
    | true => rw [e] at ho; rw [ho]; exact h1 (by rw [e]; exact ho)
  · rw [ZuA]
    simp only [Zah, Int.ofNat_lt, Nat.lt_irrefl, decide_false, cond_false, true_and]
    exact h1
def Zsz : Spec := fun ds Q => match ds with | [.c (.s 0 4 R sp), .c (.f 117 [] [.p 0 [.f 63 [] []] 0])] => cond (okZ 4 R) (Q (I (match (toZ R).findIdx? (noEv ) with | some i => (i : Int) | none => -1))) False | _ => False
theorem ZvM : Zad Tryz.prog 163 Zsz := o_of Tryz.func163 (by kernel_rfl) rfl fun ds Q h => by
  unfold Zsz at h; split at h
  · rename_i R sp 
    obtain ⟨h1, h2⟩ := Zaf h
    obtain ⟨e1, w1, n1⟩ := Zag h1
    rw [e1]
    rw [← Zak R] at n1
    generalize toZ R = l at *
    refine ⟨_, ZaG (l := []) (m := [(2, Zrs  l sp)]) .nil mixed (Za7 rfl (by kernel_rfl) (Zu3  w1 n1)) Tryz.func163 rfl rfl rfl ?_, rfl, rfl, h2⟩
    rw [ZvZ]
    refine ⟨rfl, fun i hi => ?_, fun hn => ?_⟩
    · rw [hi.find]
    · rw [hn.find]
  · exact h.elim
theorem Zvi  (R sp : List (List D)) (K : DV → Prop) : (ask Tryz.prog [(163, Zsz)] Tryz.f116 [dS 4 R sp, .c (.f 117 [] [.p 0 [.f 63 [] []] 0])] K) = (bif okZ (4) R then K (DV.c (D.v (Value.bool (decide ((match List.findIdx? noEv (toZ R) with | some i => @Nat.cast Int _ i | none => -1) ≥ 0))))) else False) := by kernel_rfl
def ZrH : Spec := fun ds Q => match ds with | [.c (.s 0 4 R sp), .c (.f 117 [] [.p 0 [.f 63 [] []] 0])] => cond (okZ 4 R) (Q (B ((toZ R).any (noEv )))) False | _ => False
theorem Zvq : Zad Tryz.prog 116 ZrH := o_of Tryz.func116 (by kernel_rfl) rfl fun ds Q h => by
  unfold ZrH at h; split at h
  · obtain ⟨h1, h2⟩ := Zaf h
    refine ⟨_, Zaj (.cons ZvM .nil) mixed Tryz.func116 rfl rfl rfl ?_, rfl, rfl, h2⟩
    rw [Zvi, h1, Zez]; rfl
  · exact h.elim
theorem ZtK (R : List (List D)) (K : DV → Prop) : (ask Tryz.prog [(116, ZrH)] Tryz.f67 [.c (.s 0 4 R []), .c (.f 63 [] [])] K) = (bif okZ (4) R then K (DV.c (D.v (Value.bool !List.any (toZ R) noEv))) else False) := by kernel_rfl
def ZgF : Spec := fun ds Q => match ds with | [.c d, .c (.f 63 [] [])] => cond d.isOwn False (Zb5 4 d fun R => cond (okZ 4 R) (Q (B (!(toZ R).any noEv))) False) | _ => False
theorem ZjO : Zad Tryz.prog 67 ZgF := o_al Tryz.func67 (by kernel_rfl) rfl fun ds Q h => by
  unfold ZgF at h; split at h
  · rename_i d
    cases hd : d.isOwn with
    | true => rw [hd] at h; exact h.elim
    | false =>
      rw [hd] at h
      obtain ⟨R, h, r1⟩ := Zav h
      obtain ⟨h1, h2⟩ := Zaf h
      refine ⟨_, _, .cons (.c r1 hd rfl) (.cons (.refl _) .nil), Zaj (.cons Zvq .nil) mixed Tryz.func67 rfl rfl rfl ?_, rfl, rfl, h2⟩
      rw [ZtK, h1]; rfl
  · exact h.elim
theorem eMIn (x m : Int) (K : DV → Prop) : (ask Tryz.prog [] Tryz.f113 [I x, I m] K) = (bif decide (x ≥ 0) then K (DV.c (D.v (Value.bool (decide (x ≤ m))))) else K (DV.c (D.v (Value.bool false)))) := by kernel_rfl
theorem oMIn : Zad Tryz.prog 113 sIn := o_of Tryz.func113 (by kernel_rfl) rfl fun ds Q h => by
  unfold sIn at h; split at h
  · refine ⟨_, Zaj .nil mixed Tryz.func113 rfl rfl rfl ?_, rfl, rfl, h⟩
    rw [eMIn]; rename_i x m; unfold upto; cases decide (x ≥ 0) <;> rfl
  · exact h.elim
def mx (a b : Int) : Int := if b > a then b else a
def mx4 (a b c d : Int) : Int := mx (mx (mx a b) c) d
theorem eMx4 (a b c d : Int) (K : DV → Prop) : (ask Tryz.prog [] Tryz.f62 [.c (.s 0 1 [[vi a], [vi b], [vi c], [vi d]] [])] K) = K (I (mx4 a b c d)) := by kernel_rfl
def sMx : Spec := fun ds Q => match ds with | [.c (.s 0 1 [[.v (.int .i64 a)], [.v (.int .i64 b)], [.v (.int .i64 c)], [.v (.int .i64 d)]] [])] => Q (I (mx4 a b c d)) | _ => False
theorem oMx : Zad Tryz.prog 62 sMx := o_of Tryz.func62 (by kernel_rfl) rfl fun ds Q h => by
  unfold sMx at h; split at h
  · rename_i a b c d
    exact ⟨_, Zaj .nil mixed Tryz.func62 rfl rfl rfl (by rw [eMx4]), rfl, rfl, h⟩
  · exact h.elim
end

section
open Go Go.Proofs
def SesD.on (q : SesD) (p r w : List (List Int)) : SesD := { q with pg := mZ p, rd := mZ r, wt := mZ w }
def ZaA (s : SesD) : Bool := okZ 4 s.pg && (okZ 3 s.rd && okZ 3 s.wt)
theorem ZmS {s : SesD} (h : ZaA s = true) : s = s.on (toZ s.pg) (toZ s.rd) (toZ s.wt) ∧ (wid 4 (toZ s.pg) ∧ (toZ s.pg).length ≤ 9223372036854775807) ∧ (wid 3 (toZ s.rd) ∧ (toZ s.rd).length ≤ 9223372036854775807) ∧ (wid 3 (toZ s.wt) ∧ (toZ s.wt).length ≤ 9223372036854775807) := by
  unfold ZaA at h
  simp only [Bool.and_eq_true] at h
  obtain ⟨h1, h2, h3⟩ := h
  obtain ⟨a1, a2, a3⟩ := Zag h1
  obtain ⟨b1, b2, b3⟩ := Zag h2
  obtain ⟨c1, c2, c3⟩ := Zag h3
  refine ⟨?_, ⟨a2, by rw [Zak]; exact a3⟩, ⟨b2, by rw [Zak]; exact b3⟩, ⟨c2, by rw [Zak]; exact c3⟩⟩
  obtain ⟨id, lb, cl, pg, st, pc, r0, r1, r2, r3, rd, wt, at', sp, tr, rs, to⟩ := s
  simp only [SesD.on] at a1 b1 c1 ⊢
  rw [← a1, ← b1, ← c1]
def Zb1 (R0 : List (List D)) (R1 : List (List D)) (R2 : List (List D)) (R3 : List (List D)) (q : SesD) (v : Bool) (i : Int) : X := ⟨mkT 70 [(2, .c (.rp 3 0 4 0 0)), (3, .c (.rp 4 0 17 0 0)), (4, ab v), (5, ai i)], [(3, .bx 0 4 [.d (.s 0 3 R0 []), .d (.s 0 3 R1 []), .d (.s 0 3 R2 []), .d (.s 0 3 R3 [])]), (4, .bx 0 17 ((sesL 0 q).map C.d))], [], []⟩
def ZeR (R0 : List (List D)) (R1 : List (List D)) (R2 : List (List D)) (R3 : List (List D)) (q : SesD) : Vw := fun y K => wB y 4 fun v => wI y 5 fun i => K (Zb1 R0 R1 R2 R3 q v i)
theorem Zhk (R0 : List (List D)) (R1 : List (List D)) (R2 : List (List D)) (R3 : List (List D)) (q : SesD) : VwOK (ZeR R0 R1 R2 R3 q) := fun y K h => by
  unfold ZeR at h
  obtain ⟨v, h⟩ := Zdr h
  obtain ⟨i, h⟩ := Zcw h
  exact ⟨_, h⟩
theorem rWd1 (R0 : List (List D)) (R1 : List (List D)) (R2 : List (List D)) (R3 : List (List D)) (q : SesD) (v : Bool) (i : Int) (N : X → Prop) (E : Exit → X → Prop) : (ZcK Tryz.prog (hkA band bor [(164, Ze4)] []) Tryz.f120 0 [] [2, 3, 4, 5] [3, 4] (ZeR R0 R1 R2 R3 q) (fun _ => ZeR R0 R1 R2 R3 q) N E (Zb1 R0 R1 R2 R3 q v i)) = (bif decide (i < @Nat.cast Int _ (List.length q.pg)) then bif decide (0 ≤ i) && decide (i < @Nat.cast Int _ (List.length q.pg)) then bif isJ [IntKind.i64] (List.drop (0) (List.getD q.pg (Int.toNat i) [])) then bif hdJ (List.drop (0) (List.getD q.pg (Int.toNat i) [])) == 2 then bif decide (0 ≤ i) && decide (i < @Nat.cast Int _ (List.length q.pg)) then bif isJ [IntKind.i64] (List.drop (2) (List.getD q.pg (Int.toNat i) [])) then bif decide (0 ≤ i) && decide (i < @Nat.cast Int _ (List.length q.pg)) then bif isJ [IntKind.i64] (List.drop (3) (List.getD q.pg (Int.toNat i) [])) then bif !thr (List.length R0) (List.length R1) (List.length R2) (List.length R3) (hdJ (List.drop (2) (List.getD q.pg (Int.toNat i) []))) (hdJ (List.drop (3) (List.getD q.pg (Int.toNat i) []))) then Zb1 R0 R1 R2 R3 q false i = Zb1 R0 R1 R2 R3 q false i ∧ E Exit.ret (Zb1 R0 R1 R2 R3 q false i) else Zb1 R0 R1 R2 R3 q v (IntKind.wrap IntKind.i64 (i + 1)) = Zb1 R0 R1 R2 R3 q v (IntKind.wrap IntKind.i64 (i + 1)) ∧ N (Zb1 R0 R1 R2 R3 q v (IntKind.wrap IntKind.i64 (i + 1))) else False else False else False else False else bif hdJ (List.drop (0) (List.getD q.pg (Int.toNat i) [])) == 3 then bif decide (0 ≤ i) && decide (i < @Nat.cast Int _ (List.length q.pg)) then bif isJ [IntKind.i64] (List.drop (2) (List.getD q.pg (Int.toNat i) [])) then bif decide (0 ≤ i) && decide (i < @Nat.cast Int _ (List.length q.pg)) then bif isJ [IntKind.i64] (List.drop (3) (List.getD q.pg (Int.toNat i) [])) then bif !thr (List.length R0) (List.length R1) (List.length R2) (List.length R3) (hdJ (List.drop (2) (List.getD q.pg (Int.toNat i) []))) (hdJ (List.drop (3) (List.getD q.pg (Int.toNat i) []))) then Zb1 R0 R1 R2 R3 q false i = Zb1 R0 R1 R2 R3 q false i ∧ E Exit.ret (Zb1 R0 R1 R2 R3 q false i) else Zb1 R0 R1 R2 R3 q v (IntKind.wrap IntKind.i64 (i + 1)) = Zb1 R0 R1 R2 R3 q v (IntKind.wrap IntKind.i64 (i + 1)) ∧ N (Zb1 R0 R1 R2 R3 q v (IntKind.wrap IntKind.i64 (i + 1))) else False else False else False else False else Zb1 R0 R1 R2 R3 q v (IntKind.wrap IntKind.i64 (i + 1)) = Zb1 R0 R1 R2 R3 q v (IntKind.wrap IntKind.i64 (i + 1)) ∧ N (Zb1 R0 R1 R2 R3 q v (IntKind.wrap IntKind.i64 (i + 1))) else False else False else Zb1 R0 R1 R2 R3 q v i = Zb1 R0 R1 R2 R3 q v i ∧ E (Exit.exit (0)) (Zb1 R0 R1 R2 R3 q v i)) := by kernel_rfl
def fWd1 (a b c d : List (List Int)) (q : SesD) (p r w : List (List Int)) : LSum := Zdf [2, 3, 4, 5] [3, 4] (fun i => Zb1 (mZ a) (mZ b) (mZ c) (mZ d) (q.on p r w) false i) (fun i => Zb1 (mZ a) (mZ b) (mZ c) (mZ d) (q.on p r w) false i) p.length (fun i => noIn (mZ a) (mZ b) (mZ c) (mZ d) (p.getD i [])) .ret (.exit 0)
theorem kWd1 {a b c d : List (List Int)} {q : SesD} {p r w : List (List Int)} (hw : wid 4 p) (hn : p.length ≤ 9223372036854775807) (Q : Exit → X → Prop) (x : X) (h : fWd1 a b c d q p r w Q x) : XWP Tryz.prog (.loop (Zaq Tryz.f120 0)) Q x := by
  refine Zcb (sw := []) (V := ZeR (mZ a) (mZ b) (mZ c) (mZ d) (q.on p r w)) (VE := fun _ => ZeR (mZ a) (mZ b) (mZ c) (mZ d) (q.on p r w)) mixed (Zhk (mZ a) (mZ b) (mZ c) (mZ d) (q.on p r w)) (fun _ => Zhk (mZ a) (mZ b) (mZ c) (mZ d) (q.on p r w)) _ _ _ _ _ _ (fun i hl => ⟨hkA band bor [(164, Ze4)] [], ZaK (.cons Zi9 .nil), Zai rfl, fun N E h1 h2 => ?_⟩) ⟨hkA band bor [(164, Ze4)] [], ZaK (.cons Zi9 .nil), Zai rfl, fun N E h1 => ?_⟩ Q x h
  · rw [rWd1]
    have wi : IntKind.wrap .i64 ((i : Int) + 1) = ((i + 1 : Nat) : Int) := Zam (n := 1) (by omega)
    have a0 : isJ [IntKind.i64] ((mZ p).getD i []) = true := Zas (j := 0) (n := 1) hw hl (by omega)
    have a1 : isJ [IntKind.i64] (List.drop 1 ((mZ p).getD i [])) = true := Zas (j := 1) (n := 1) hw hl (by omega)
    have a2 : isJ [IntKind.i64] (List.drop 2 ((mZ p).getD i [])) = true := Zas (j := 2) (n := 1) hw hl (by omega)
    have a3 : isJ [IntKind.i64] (List.drop 3 ((mZ p).getD i [])) = true := Zas (j := 3) (n := 1) hw hl (by omega)
    have a9 : isJ [IntKind.i64, IntKind.i64, IntKind.i64, IntKind.i64] ((mZ p).getD i []) = true := Zas (j := 0) (n := 4) hw hl (by omega)
    simp only [SesD.on, Zah, Int.ofNat_lt, hl, decide_true, cond_true, Int.natCast_nonneg, Bool.and_self, Int.toNat_natCast, a0, a1, a2, a3, a9, List.drop_zero, ZaM, ZbL, ZaQ, ZaS, Zbh, true_and, wi] at h1 h2 ⊢
    unfold noIn thW at h1 h2
    simp only [Zah] at h1 h2
    unfold isRW at h1 h2
    generalize thr a.length b.length c.length d.length ((p.getD i []).getD 2 0) ((p.getD i []).getD 3 0) = u at h1 h2 ⊢
    cases e2 : ((p.getD i []).getD 0 0 == 2) <;> cases e3 : ((p.getD i []).getD 0 0 == 3) <;> cases u <;> simp only [e2, e3, cond_true, cond_false, Bool.not_true, Bool.not_false, Bool.and_true, Bool.and_false, Bool.true_and, Bool.false_and, forall_const, reduceCtorEq, false_implies] at h1 h2 ⊢ <;> first | exact h1 | exact h2 | exact h1 trivial | exact h2 trivial
  · rw [rWd1]
    simp only [SesD.on, Zah, Int.ofNat_lt, Nat.lt_irrefl, decide_false, cond_false, true_and]
    exact h1
def Zd6 (R0 : List (List D)) (R1 : List (List D)) (R2 : List (List D)) (R3 : List (List D)) (q : SesD) (v : Bool) (i : Int) : X := ⟨mkT 70 [(2, .c (.rp 3 0 4 0 0)), (3, .c (.rp 4 0 17 0 0)), (4, ab v), (7, ai i)], [(3, .bx 0 4 [.d (.s 0 3 R0 []), .d (.s 0 3 R1 []), .d (.s 0 3 R2 []), .d (.s 0 3 R3 [])]), (4, .bx 0 17 ((sesL 0 q).map C.d))], [], []⟩
def ZeQ (R0 : List (List D)) (R1 : List (List D)) (R2 : List (List D)) (R3 : List (List D)) (q : SesD) : Vw := fun y K => wB y 4 fun v => wI y 7 fun i => K (Zd6 R0 R1 R2 R3 q v i)
theorem ZhJ (R0 : List (List D)) (R1 : List (List D)) (R2 : List (List D)) (R3 : List (List D)) (q : SesD) : VwOK (ZeQ R0 R1 R2 R3 q) := fun y K h => by
  unfold ZeQ at h
  obtain ⟨v, h⟩ := Zdr h
  obtain ⟨i, h⟩ := Zcw h
  exact ⟨_, h⟩
theorem rWd2 (R0 : List (List D)) (R1 : List (List D)) (R2 : List (List D)) (R3 : List (List D)) (q : SesD) (v : Bool) (i : Int) (N : X → Prop) (E : Exit → X → Prop) : (ZcK Tryz.prog (hkA band bor [(164, Ze4)] []) Tryz.f120 1 [] [2, 3, 4, 7] [3, 4] (ZeQ R0 R1 R2 R3 q) (fun _ => ZeQ R0 R1 R2 R3 q) N E (Zd6 R0 R1 R2 R3 q v i)) = (bif decide (i < @Nat.cast Int _ (List.length q.wt)) then bif decide (0 ≤ i) && decide (i < @Nat.cast Int _ (List.length q.wt)) then bif isJ [IntKind.i64] (List.drop (0) (List.getD q.wt (Int.toNat i) [])) then bif decide (0 ≤ i) && decide (i < @Nat.cast Int _ (List.length q.wt)) then bif isJ [IntKind.i64] (List.drop (1) (List.getD q.wt (Int.toNat i) [])) then bif !thr (List.length R0) (List.length R1) (List.length R2) (List.length R3) (hdJ (List.drop (0) (List.getD q.wt (Int.toNat i) []))) (hdJ (List.drop (1) (List.getD q.wt (Int.toNat i) []))) then Zd6 R0 R1 R2 R3 q false i = Zd6 R0 R1 R2 R3 q false i ∧ E Exit.ret (Zd6 R0 R1 R2 R3 q false i) else Zd6 R0 R1 R2 R3 q v (IntKind.wrap IntKind.i64 (i + 1)) = Zd6 R0 R1 R2 R3 q v (IntKind.wrap IntKind.i64 (i + 1)) ∧ N (Zd6 R0 R1 R2 R3 q v (IntKind.wrap IntKind.i64 (i + 1))) else False else False else False else False else Zd6 R0 R1 R2 R3 q v i = Zd6 R0 R1 R2 R3 q v i ∧ E (Exit.exit (2)) (Zd6 R0 R1 R2 R3 q v i)) := by kernel_rfl
def fWd2 (a b c d : List (List Int)) (q : SesD) (p r w : List (List Int)) : LSum := Zdf [2, 3, 4, 7] [3, 4] (fun i => Zd6 (mZ a) (mZ b) (mZ c) (mZ d) (q.on p r w) false i) (fun i => Zd6 (mZ a) (mZ b) (mZ c) (mZ d) (q.on p r w) false i) w.length (fun i => noWr (mZ a) (mZ b) (mZ c) (mZ d) (w.getD i [])) .ret (.exit 2)
theorem kWd2 {a b c d : List (List Int)} {q : SesD} {p r w : List (List Int)} (hw : wid 3 w) (hn : w.length ≤ 9223372036854775807) (Q : Exit → X → Prop) (x : X) (h : fWd2 a b c d q p r w Q x) : XWP Tryz.prog (.loop (Zaq Tryz.f120 1)) Q x := by
  refine Zcb (sw := []) (V := ZeQ (mZ a) (mZ b) (mZ c) (mZ d) (q.on p r w)) (VE := fun _ => ZeQ (mZ a) (mZ b) (mZ c) (mZ d) (q.on p r w)) mixed (ZhJ (mZ a) (mZ b) (mZ c) (mZ d) (q.on p r w)) (fun _ => ZhJ (mZ a) (mZ b) (mZ c) (mZ d) (q.on p r w)) _ _ _ _ _ _ (fun i hl => ⟨hkA band bor [(164, Ze4)] [], ZaK (.cons Zi9 .nil), Zai rfl, fun N E h1 h2 => ?_⟩) ⟨hkA band bor [(164, Ze4)] [], ZaK (.cons Zi9 .nil), Zai rfl, fun N E h1 => ?_⟩ Q x h
  · rw [rWd2]
    have wi : IntKind.wrap .i64 ((i : Int) + 1) = ((i + 1 : Nat) : Int) := Zam (n := 1) (by omega)
    have a0 : isJ [IntKind.i64] ((mZ w).getD i []) = true := Zas (j := 0) (n := 1) hw hl (by omega)
    have a1 : isJ [IntKind.i64] (List.drop 1 ((mZ w).getD i [])) = true := Zas (j := 1) (n := 1) hw hl (by omega)
    have a2 : isJ [IntKind.i64] (List.drop 2 ((mZ w).getD i [])) = true := Zas (j := 2) (n := 1) hw hl (by omega)
    have a9 : isJ [IntKind.i64, IntKind.i64, IntKind.i64] ((mZ w).getD i []) = true := Zas (j := 0) (n := 3) hw hl (by omega)
    simp only [SesD.on, Zah, Int.ofNat_lt, hl, decide_true, cond_true, Int.natCast_nonneg, Bool.and_self, Int.toNat_natCast, a0, a1, a2, a9, List.drop_zero, ZaM, ZbL, ZaQ, ZaS, Zbh, true_and, wi] at h1 h2 ⊢
    unfold noWr thW at h1 h2
    simp only [Zah] at h1 h2
    generalize thr a.length b.length c.length d.length ((w.getD i []).getD 0 0) ((w.getD i []).getD 1 0) = u at h1 h2 ⊢
    cases u <;> simp only [cond_true, cond_false, Bool.not_true, Bool.not_false, forall_const, reduceCtorEq, false_implies] at h1 h2 ⊢ <;> first | exact h1 | exact h2 | exact h1 trivial | exact h2 trivial
  · rw [rWd2]
    simp only [SesD.on, Zah, Int.ofNat_lt, Nat.lt_irrefl, decide_false, cond_false, true_and]
    exact h1
theorem Zso {P : Program} {l : List (FuncId × Spec)} {fn : Func} {k1 k2 : Nat} {s1 s2 : LSum} (hn : (Za9 (Zar fn)).length = 2) (e1 : ZbC (Zaq fn 0) = k1) (e2 : ZbC (Zaq fn 1) = k2) (hne : Nat.beq k1 k2 = false) (h1 : ∀ Q x, s1 Q x → XWP P (.loop (Zaq fn 0)) Q x) (h2 : ∀ Q x, s2 Q x → XWP P (.loop (Zaq fn 1)) Q x) : ZaE P (hkl l [(k1, s1), (k2, s2)]) (Zar fn) :=
  Zc7 2 hn fun i hi s hs Q x hq => by
    match i, hi with
    | 0, _ =>
      rw [e1] at hs
      have hs' : some s1 = some s := by simpa [Zde, hkl, hkA, Zbg] using hs
      cases hs'
      exact h1 Q x hq
    | 1, _ =>
      rw [e2] at hs
      have hs' : some s2 = some s := by simpa [Zde, hkl, hkA, Zbg, hne] using hs
      cases hs'
      exact h2 Q x hq
theorem eWds (a b c d : List (List Int)) (q : SesD) (p r w : List (List Int)) (K : DV → Prop) : (askL Tryz.prog [(164, Ze4), (165, sRT)] [(2, fWd1 a b c d q p r w), (8, fWd2 a b c d q p r w)] Tryz.f120 [.agg (wsL (mZ a) (mZ b) (mZ c) (mZ d)), .agg (sesL 0 (q.on p r w))] K) = (Zb1 (mZ a) (mZ b) (mZ c) (mZ d) { id := q.id, lb := q.lb, cl := q.cl, pg := mZ p, st := q.st, pc := q.pc, r0 := q.r0, r1 := q.r1, r2 := q.r2, r3 := q.r3, rd := mZ r, wt := mZ w, at' := q.at', sp := q.sp, tr := q.tr, rs := q.rs, to := q.to } false (0) = Zb1 (mZ a) (mZ b) (mZ c) (mZ d) { id := q.id, lb := q.lb, cl := q.cl, pg := mZ p, st := q.st, pc := q.pc, r0 := q.r0, r1 := q.r1, r2 := q.r2, r3 := q.r3, rd := mZ r, wt := mZ w, at' := q.at', sp := q.sp, tr := q.tr, rs := q.rs, to := q.to } false (0) ∧ (∀ (i : Nat), firstAt (fun i => noIn (mZ a) (mZ b) (mZ c) (mZ d) (List.getD p i [])) (List.length p) i → K (DV.c (D.v (Value.bool false)))) ∧ (noneTo (fun i => noIn (mZ a) (mZ b) (mZ c) (mZ d) (List.getD p i [])) (List.length p) → Zd6 (mZ a) (mZ b) (mZ c) (mZ d) { id := q.id, lb := q.lb, cl := q.cl, pg := mZ p, st := q.st, pc := q.pc, r0 := q.r0, r1 := q.r1, r2 := q.r2, r3 := q.r3, rd := mZ r, wt := mZ w, at' := q.at', sp := q.sp, tr := q.tr, rs := q.rs, to := q.to } false (0) = Zd6 (mZ a) (mZ b) (mZ c) (mZ d) { id := q.id, lb := q.lb, cl := q.cl, pg := mZ p, st := q.st, pc := q.pc, r0 := q.r0, r1 := q.r1, r2 := q.r2, r3 := q.r3, rd := mZ r, wt := mZ w, at' := q.at', sp := q.sp, tr := q.tr, rs := q.rs, to := q.to } false (0) ∧ (∀ (i : Nat), firstAt (fun i => noWr (mZ a) (mZ b) (mZ c) (mZ d) (List.getD w i [])) (List.length w) i → K (DV.c (D.v (Value.bool false)))) ∧ (noneTo (fun i => noWr (mZ a) (mZ b) (mZ c) (mZ d) (List.getD w i [])) (List.length w) → bif okA (mZ a) (mZ b) (mZ c) (mZ d) && okZ (3) (mZ r) then K (DV.c (D.v (Value.bool (List.all (toZ (mZ r)) (thv (toZ (mZ a)) (toZ (mZ b)) (toZ (mZ c)) (toZ (mZ d))))))) else False))) := by kernel_rfl
end

section
open Go Go.Proofs
def Znn (R0 R1 R2 R3 : List (List D)) (s : SesD) : Bool := rmay (toZ s.rd) && (Zf6 (toZ s.wt) && (!(toZ s.rd).any (noRd R0 R1 R2 R3) && (!(toZ s.wt).any (noWr R0 R1 R2 R3) && !(toZ s.pg).any (noIn R0 R1 R2 R3))))
def farB (s : SesD) : Bool := upto s.pc 0 s.pg.length && (upto s.at' 0 s.wt.length && (upto s.st 0 6 && upto s.rs 0 5))
def Zo0 (s : SesD) : Bool := v4 s.r0 s.r1 s.r2 s.r3 && (clk s.sp && (clk s.tr && val8 s.to))
def Zal (R0 R1 R2 R3 : List (List D)) (s : SesD) : Bool := smay s.id s.lb s.cl (toZ s.pg) && (Znn R0 R1 R2 R3 s && (farB s && Zo0 s))
def stL0 (R0 : List (List D)) (R1 : List (List D)) (R2 : List (List D)) (R3 : List (List D)) (s : SesD)  : X := ⟨mkT 97 [(2, .c (.rp 3 0 1 0 0)), (3, .c (.rp 4 0 17 0 0))], [(3, .bx 0 1 [.d (.p 0 (wsL R0 R1 R2 R3) 0)]), (4, .bx 0 17 ((sesL 0 s).map C.d))], [], []⟩
def Zpq (R0 : List (List D)) (R1 : List (List D)) (R2 : List (List D)) (R3 : List (List D)) (s : SesD) : Vw := fun y K => K (stL0 R0 R1 R2 R3 s )
theorem Zn8 (R0 : List (List D)) (R1 : List (List D)) (R2 : List (List D)) (R3 : List (List D)) (s : SesD) : VwOK (Zpq R0 R1 R2 R3 s) := fun y K h => by
  unfold Zpq at h
  exact ⟨_, h⟩
def stL1 (R0 : List (List D)) (R1 : List (List D)) (R2 : List (List D)) (R3 : List (List D)) (s : SesD) (b1 : Bool) : X := ⟨mkT 97 [(2, .c (.rp 3 0 1 0 0)), (3, .c (.rp 4 0 17 0 0)), (5, ab b1)], [(3, .bx 0 1 [.d (.p 0 (wsL R0 R1 R2 R3) 0)]), (4, .bx 0 17 ((sesL 0 s).map C.d))], [], []⟩
def Znz (R0 : List (List D)) (R1 : List (List D)) (R2 : List (List D)) (R3 : List (List D)) (s : SesD) : Vw := fun y K => wB y 5 fun b1 => K (stL1 R0 R1 R2 R3 s b1)
theorem Zo9 (R0 : List (List D)) (R1 : List (List D)) (R2 : List (List D)) (R3 : List (List D)) (s : SesD) : VwOK (Znz R0 R1 R2 R3 s) := fun y K h => by
  unfold Znz at h
  obtain ⟨b1, h⟩ := Zdr h
  exact ⟨_, h⟩
def stL2 (R0 : List (List D)) (R1 : List (List D)) (R2 : List (List D)) (R3 : List (List D)) (s : SesD) (b1 : Bool) (b2 : Bool) : X := ⟨mkT 97 [(2, .c (.rp 3 0 1 0 0)), (3, .c (.rp 4 0 17 0 0)), (5, ab b1), (6, ab b2)], [(3, .bx 0 1 [.d (.p 0 (wsL R0 R1 R2 R3) 0)]), (4, .bx 0 17 ((sesL 0 s).map C.d))], [], []⟩
def Zpn (R0 : List (List D)) (R1 : List (List D)) (R2 : List (List D)) (R3 : List (List D)) (s : SesD) : Vw := fun y K => wB y 5 fun b1 => wB y 6 fun b2 => K (stL2 R0 R1 R2 R3 s b1 b2)
theorem Zpd (R0 : List (List D)) (R1 : List (List D)) (R2 : List (List D)) (R3 : List (List D)) (s : SesD) : VwOK (Zpn R0 R1 R2 R3 s) := fun y K h => by
  unfold Zpn at h
  obtain ⟨b1, h⟩ := Zdr h
  obtain ⟨b2, h⟩ := Zdr h
  exact ⟨_, h⟩
def stL3 (R0 : List (List D)) (R1 : List (List D)) (R2 : List (List D)) (R3 : List (List D)) (s : SesD) (b1 : Bool) (b2 : Bool) (b3 : Bool) : X := ⟨mkT 97 [(2, .c (.rp 3 0 1 0 0)), (3, .c (.rp 4 0 17 0 0)), (5, ab b1), (6, ab b2), (7, ab b3)], [(3, .bx 0 1 [.d (.p 0 (wsL R0 R1 R2 R3) 0)]), (4, .bx 0 17 ((sesL 0 s).map C.d))], [], []⟩
def Zoq (R0 : List (List D)) (R1 : List (List D)) (R2 : List (List D)) (R3 : List (List D)) (s : SesD) : Vw := fun y K => wB y 5 fun b1 => wB y 6 fun b2 => wB y 7 fun b3 => K (stL3 R0 R1 R2 R3 s b1 b2 b3)
theorem ZnV (R0 : List (List D)) (R1 : List (List D)) (R2 : List (List D)) (R3 : List (List D)) (s : SesD) : VwOK (Zoq R0 R1 R2 R3 s) := fun y K h => by
  unfold Zoq at h
  obtain ⟨b1, h⟩ := Zdr h
  obtain ⟨b2, h⟩ := Zdr h
  obtain ⟨b3, h⟩ := Zdr h
  exact ⟨_, h⟩
def stL4 (R0 : List (List D)) (R1 : List (List D)) (R2 : List (List D)) (R3 : List (List D)) (s : SesD) (b : Bool) : X := ⟨mkT 97 [(4, ab b)], [], [], []⟩
def Zps (R0 : List (List D)) (R1 : List (List D)) (R2 : List (List D)) (R3 : List (List D)) (s : SesD) : Vw := fun y K => wB y 4 fun b => K (stL4 R0 R1 R2 R3 s b)
theorem ZoX (R0 : List (List D)) (R1 : List (List D)) (R2 : List (List D)) (R3 : List (List D)) (s : SesD) : VwOK (Zps R0 R1 R2 R3 s) := fun y K h => by
  unfold Zps at h
  obtain ⟨b, h⟩ := Zdr h
  exact ⟨_, h⟩
theorem eL0 (R0 : List (List D)) (R1 : List (List D)) (R2 : List (List D)) (R3 : List (List D)) (s : SesD) (N : X → Prop) : (ZlH Tryz.prog (hk []) (partOf Tryz.f66 0) [2, 3] [3, 4] (Zpq R0 R1 R2 R3 s) N (ZbO 97 [.agg [.p 0 (wsL R0 R1 R2 R3) 0], .agg (sesL 0 s)])) = (stL0 R0 R1 R2 R3 s = stL0 R0 R1 R2 R3 s ∧ N (stL0 R0 R1 R2 R3 s)) := by kernel_rfl
theorem eL1 (R0 : List (List D)) (R1 : List (List D)) (R2 : List (List D)) (R3 : List (List D)) (s : SesD) (N : X → Prop) : (ZlH Tryz.prog (hk [(89, Zkp)]) (partOf Tryz.f66 1) [2, 3, 5] [3, 4] (Znz R0 R1 R2 R3 s) N (stL0 R0 R1 R2 R3 s)) = (bif okZ (4) s.pg then stL1 R0 R1 R2 R3 s (smay s.id s.lb s.cl (toZ s.pg)) = stL1 R0 R1 R2 R3 s (smay s.id s.lb s.cl (toZ s.pg)) ∧ N (stL1 R0 R1 R2 R3 s (smay s.id s.lb s.cl (toZ s.pg))) else False) := by kernel_rfl
theorem eL2 (R0 : List (List D)) (R1 : List (List D)) (R2 : List (List D)) (R3 : List (List D)) (s : SesD) (b1 : Bool) (N : X → Prop) : (ZlH Tryz.prog (hk [(105, sRM), (106, sWMy), (107, Zn5), (109, ZnN), (111, Zpi)]) (partOf Tryz.f66 2) [2, 3, 5, 6] [3, 4] (Zpn R0 R1 R2 R3 s) N (stL1 R0 R1 R2 R3 s b1)) = (bif okZ (3) s.rd then bif rmay (toZ s.rd) then bif okZ (3) s.wt then bif Zf6 (toZ s.wt) then bif okZ (3) s.rd then bif !List.any (toZ s.rd) (noRd R0 R1 R2 R3) then bif okZ (3) s.wt then bif !List.any (toZ s.wt) (noWr R0 R1 R2 R3) then bif okZ (4) s.pg then (stL2 R0 R1 R2 R3 s b1 !List.any (toZ s.pg) (noIn R0 R1 R2 R3)) = stL2 R0 R1 R2 R3 s b1 !List.any (toZ s.pg) (noIn R0 R1 R2 R3) ∧ N (stL2 R0 R1 R2 R3 s b1 !List.any (toZ s.pg) (noIn R0 R1 R2 R3)) else False else stL2 R0 R1 R2 R3 s b1 false = stL2 R0 R1 R2 R3 s b1 false ∧ N (stL2 R0 R1 R2 R3 s b1 false) else False else stL2 R0 R1 R2 R3 s b1 false = stL2 R0 R1 R2 R3 s b1 false ∧ N (stL2 R0 R1 R2 R3 s b1 false) else False else stL2 R0 R1 R2 R3 s b1 false = stL2 R0 R1 R2 R3 s b1 false ∧ N (stL2 R0 R1 R2 R3 s b1 false) else False else stL2 R0 R1 R2 R3 s b1 false = stL2 R0 R1 R2 R3 s b1 false ∧ N (stL2 R0 R1 R2 R3 s b1 false) else False) := by kernel_rfl
theorem eL3 (R0 : List (List D)) (R1 : List (List D)) (R2 : List (List D)) (R3 : List (List D)) (s : SesD) (b1 : Bool) (b2 : Bool) (N : X → Prop) : (ZlH Tryz.prog (hk [(113, sIn)]) (partOf Tryz.f66 3) [2, 3, 5, 6, 7] [3, 4] (Zoq R0 R1 R2 R3 s) N (stL2 R0 R1 R2 R3 s b1 b2)) = (bif upto s.pc (0) (@Nat.cast Int _ (List.length s.pg)) then bif upto s.at' (0) (@Nat.cast Int _ (List.length s.wt)) then bif upto s.st (0) (6) then stL3 R0 R1 R2 R3 s b1 b2 (upto s.rs (0) (5)) = stL3 R0 R1 R2 R3 s b1 b2 (upto s.rs (0) (5)) ∧ N (stL3 R0 R1 R2 R3 s b1 b2 (upto s.rs (0) (5))) else stL3 R0 R1 R2 R3 s b1 b2 false = stL3 R0 R1 R2 R3 s b1 b2 false ∧ N (stL3 R0 R1 R2 R3 s b1 b2 false) else stL3 R0 R1 R2 R3 s b1 b2 false = stL3 R0 R1 R2 R3 s b1 b2 false ∧ N (stL3 R0 R1 R2 R3 s b1 b2 false) else stL3 R0 R1 R2 R3 s b1 b2 false = stL3 R0 R1 R2 R3 s b1 b2 false ∧ N (stL3 R0 R1 R2 R3 s b1 b2 false)) := by kernel_rfl
theorem eL4 (R0 : List (List D)) (R1 : List (List D)) (R2 : List (List D)) (R3 : List (List D)) (s : SesD) (b1 : Bool) (b2 : Bool) (b3 : Bool) (N : X → Prop) : (ZlH Tryz.prog (hk [(114, sRgM), (102, sB clk), (115, sB val8)]) (partOf Tryz.f66 4) [4] [] (Zps R0 R1 R2 R3 s) N (stL3 R0 R1 R2 R3 s b1 b2 b3)) = (bif b1 then bif b2 then bif b3 then bif v4 s.r0 s.r1 s.r2 s.r3 then bif clk s.sp then bif clk s.tr then stL4 R0 R1 R2 R3 s (val8 s.to) = stL4 R0 R1 R2 R3 s (val8 s.to) ∧ N (stL4 R0 R1 R2 R3 s (val8 s.to)) else stL4 R0 R1 R2 R3 s false = stL4 R0 R1 R2 R3 s false ∧ N (stL4 R0 R1 R2 R3 s false) else stL4 R0 R1 R2 R3 s false = stL4 R0 R1 R2 R3 s false ∧ N (stL4 R0 R1 R2 R3 s false) else stL4 R0 R1 R2 R3 s false = stL4 R0 R1 R2 R3 s false ∧ N (stL4 R0 R1 R2 R3 s false) else stL4 R0 R1 R2 R3 s false = stL4 R0 R1 R2 R3 s false ∧ N (stL4 R0 R1 R2 R3 s false) else stL4 R0 R1 R2 R3 s false = stL4 R0 R1 R2 R3 s false ∧ N (stL4 R0 R1 R2 R3 s false) else stL4 R0 R1 R2 R3 s false = stL4 R0 R1 R2 R3 s false ∧ N (stL4 R0 R1 R2 R3 s false)) := by kernel_rfl
theorem eL5 (R0 : List (List D)) (R1 : List (List D)) (R2 : List (List D)) (R3 : List (List D)) (s : SesD) (b : Bool) (K : DV → Prop) : (evp Tryz.prog (hk []) 200 (partOf Tryz.f66 5) (fun e y => match e with | .normal => finX Tryz.prog Tryz.f66 K .normal y | e => finX Tryz.prog Tryz.f66 K e y) (stL4 R0 R1 R2 R3 s b)) = (K (DV.c (D.v (Value.bool b)))) := by kernel_rfl
theorem Zuw : seqs (Zar Tryz.f66) = [partOf Tryz.f66 0, partOf Tryz.f66 1, partOf Tryz.f66 2, partOf Tryz.f66 3, partOf Tryz.f66 4, partOf Tryz.f66 5] := by kernel_rfl
theorem cLS (R0 R1 R2 R3 : List (List D)) (s : SesD) (hs : ZaA s = true) : CT Tryz.prog 66 [.agg [.p 0 (wsL R0 R1 R2 R3) 0], .agg (sesL 0 s)] (B (Zal R0 R1 R2 R3 s)) := by
  unfold ZaA at hs
  simp only [Bool.and_eq_true] at hs
  obtain ⟨h1, h2, h3⟩ := hs
  refine Zor Tryz.func66 (c := Zar Tryz.f66) rfl (Nat.le_of_ble_eq_true rfl) rfl (Zqi _ _ _ ?_)
  rw [Zuw]
  refine Zgl (ts := [2, 3]) (ks := [3, 4]) (Zlj .nil) mixed ZbT (by simp) (Zn8 R0 R1 R2 R3 s) ?_
  show ZlH Tryz.prog _ _ _ _ _ _ (ZbO 97 _)
  rw [eL0]
  refine ⟨rfl, Zgl (ts := [2, 3, 5]) (ks := [3, 4]) (Zlj (.cons Zwk .nil)) mixed ZbT (by simp) (Zo9 R0 R1 R2 R3 s) ?_⟩
  rw [eL1]
  simp only [h1, cond_true]
  refine ⟨trivial, ?_⟩
  generalize hb1 : smay s.id s.lb s.cl (toZ s.pg) = b1
  refine Zgl (ts := [2, 3, 5, 6]) (ks := [3, 4]) (Zlj (.cons oRM (.cons oWMy (.cons Zun (.cons Zt7 (.cons Ztz .nil)))))) mixed ZbT (by simp) (Zpd R0 R1 R2 R3 s) ?_
  suffices key2 : XS Tryz.prog [partOf Tryz.f66 3, partOf Tryz.f66 4, partOf Tryz.f66 5] (finX Tryz.prog Tryz.f66 fun r => r = B (Zal R0 R1 R2 R3 s)) (stL2 R0 R1 R2 R3 s b1 (Znn R0 R1 R2 R3 s)) by
    rw [eL2]
    simp only [h1, h2, h3, cond_true]
    unfold Znn at key2
    cases q1 : rmay (toZ s.rd) <;> cases q2 : Zf6 (toZ s.wt) <;> cases q3 : !(toZ s.rd).any (noRd R0 R1 R2 R3) <;> cases q4 : !(toZ s.wt).any (noWr R0 R1 R2 R3) <;> cases q5 : !(toZ s.pg).any (noIn R0 R1 R2 R3) <;>
      simp only [q1, q2, q3, q4, q5, cond_true, cond_false, Bool.and_true, Bool.and_false, Bool.true_and, Bool.false_and, true_and] at key2 ⊢ <;> exact key2
  generalize hb2 : Znn R0 R1 R2 R3 s = b2
  refine Zgl (ts := [2, 3, 5, 6, 7]) (ks := [3, 4]) (Zlj (.cons oMIn .nil)) mixed ZbT (by simp) (ZnV R0 R1 R2 R3 s) ?_
  suffices key3 : XS Tryz.prog [partOf Tryz.f66 4, partOf Tryz.f66 5] (finX Tryz.prog Tryz.f66 fun r => r = B (Zal R0 R1 R2 R3 s)) (stL3 R0 R1 R2 R3 s b1 b2 (farB s)) by
    rw [eL3]
    unfold farB at key3
    cases q1 : upto s.pc 0 s.pg.length <;> cases q2 : upto s.at' 0 s.wt.length <;> cases q3 : upto s.st 0 6 <;> cases q4 : upto s.rs 0 5 <;>
      simp only [q1, q2, q3, q4, cond_true, cond_false, Bool.and_true, Bool.and_false, Bool.true_and, Bool.false_and, true_and] at key3 ⊢ <;> exact key3
  generalize hb3 : farB s = b3
  refine Zgl (ts := [4]) (ks := []) (Zlj (.cons oRgM (.cons oClk (.cons oVal .nil)))) mixed ZbT (by simp) (ZoX R0 R1 R2 R3 s) ?_
  suffices key4 : XS Tryz.prog [partOf Tryz.f66 5] (finX Tryz.prog Tryz.f66 fun r => r = B (Zal R0 R1 R2 R3 s)) (stL4 R0 R1 R2 R3 s (b1 && (b2 && (b3 && Zo0 s)))) by
    rw [eL4]
    unfold Zo0 at key4
    cases b1 <;> cases b2 <;> cases b3 <;> cases q1 : v4 s.r0 s.r1 s.r2 s.r3 <;> cases q2 : clk s.sp <;> cases q3 : clk s.tr <;> cases q4 : val8 s.to <;>
      simp only [q1, q2, q3, q4, cond_true, cond_false, Bool.and_true, Bool.and_false, Bool.true_and, Bool.false_and, true_and] at key4 ⊢ <;> exact key4
  refine Zrq (Zlj .nil) mixed ZbT ?_
  have h5 := eL5 R0 R1 R2 R3 s (b1 && (b2 && (b3 && Zo0 s))) (fun r => r = B (Zal R0 R1 R2 R3 s))
  refine h5.mpr ?_
  rw [← hb1, ← hb2, ← hb3]; rfl
end

section
open Go Go.Proofs
def sLS : Spec := fun ds Q => match ds with
  | [.agg [p], e] => ZlO p fun R0 R1 R2 R3 => sesA e fun s => cond (ZaA s) (Q (B (Zal R0 R1 R2 R3 s))) False
  | _ => False
theorem oLS : Zad Tryz.prog 66 sLS := o_al Tryz.func66 (by kernel_rfl) rfl fun ds Q h => by
  unfold sLS at h; split at h
  · obtain ⟨R0, R1, R2, R3, h, r1, e1⟩ := ZfW h
    obtain ⟨s, h, r2⟩ := ZbK h
    obtain ⟨h1, h2⟩ := Zaf h
    exact ⟨_, _, .cons (.agg (.cons r1 .nil) (by simp [e1]) rfl) (.cons r2 .nil), cLS R0 R1 R2 R3 s h1, rfl, rfl, h2⟩
  · exact h.elim
theorem eA1S (R0 R1 R2 R3 : List (List D)) (s : SesD) (K : DV → Prop) : (ask Tryz.prog [(66, sLS)] Tryz.f104 [.agg (sesL 0 s), .c (.p 0 [.f 66 [.f AG [] [.p 0 (wsL R0 R1 R2 R3) 0]] []] 0)] K) = (bif ZaA s then K (DV.c (D.v (Value.bool !Zal R0 R1 R2 R3 s))) else False) := by kernel_rfl
def sA1S : Spec := fun ds Q => match ds with
  | [e, .c (.p _ [c] 0)] => sesA e fun s => ZgN 66 c fun R0 R1 R2 R3 => cond (ZaA s) (Q (B (!Zal R0 R1 R2 R3 s))) False
  | _ => False
theorem oA1S : Zad Tryz.prog 104 sA1S := o_al Tryz.func104 (by kernel_rfl) rfl fun ds Q h => by
  unfold sA1S at h; split at h
  · obtain ⟨s, h, r2⟩ := ZbK h
    obtain ⟨R0, R1, R2, R3, h, r1, e1⟩ := Zcg (by decide) h
    obtain ⟨h1, h2⟩ := Zaf h
    exact ⟨_, _, .cons r2 (.cons (.c (RD.cells (t' := 0) (.cons r1 .nil)) rfl rfl) .nil), Zaj (.cons oLS .nil) mixed Tryz.func104 rfl rfl rfl (by rw [eA1S, h1]; rfl), rfl, rfl, h2⟩
  · exact h.elim
def iIxS : Inl := inlB Tryz.prog band bor [(104, sA1S)] [] [] Tryz.f152
def iCoS : Inl := inlB Tryz.prog band bor [] [] [(152, iIxS)] Tryz.f103
theorem ZrE : Zbi Tryz.prog 152 iIxS := Zoi (.cons oA1S .nil) .nil .nil mixed Tryz.func152 rfl (Zao Tryz.func152 (by kernel_rfl) rfl)
theorem Zgy : Zbi Tryz.prog 103 iCoS := Zoi .nil .nil (.cons ZrE .nil) mixed Tryz.func103 rfl (Zao Tryz.func103 (by kernel_rfl) rfl)
theorem bifN (p q : Bool) (x : DV) : (bif !p then (DV.c (.v (.bool false)) = x) else (DV.c (.v (.bool q)) = x)) = (DV.c (.v (.bool (p && q))) = x) := by cases p <;> rfl
theorem Zs4 (R0 R1 R2 R3 : List (List D)) (K : DV → Prop) : (askX Tryz.prog band bor [] [] [(103, iCoS)] Tryz.f65 [.c (.s 0 17 ([].map (sesL 0)) []), .c (.f 66 [.f AG [] [.p 0 (wsL R0 R1 R2 R3) 0]] [])] K) = (K (DV.c (D.v (Value.bool true)))) := by kernel_rfl
theorem Zt2 (R0 R1 R2 R3 : List (List D)) (s0 : SesD) (K : DV → Prop) : (askX Tryz.prog band bor [] [] [(103, iCoS)] Tryz.f65 [.c (.s 0 17 ([s0].map (sesL 0)) []), .c (.f 66 [.f AG [] [.p 0 (wsL R0 R1 R2 R3) 0]] [])] K) = (bif ZaA s0 then bif !Zal R0 R1 R2 R3 s0 then K (DV.c (D.v (Value.bool false))) else K (DV.c (D.v (Value.bool true))) else False) := by kernel_rfl
theorem Ztl (R0 R1 R2 R3 : List (List D)) (s0 s1 : SesD) (K : DV → Prop) : (askX Tryz.prog band bor [] [] [(103, iCoS)] Tryz.f65 [.c (.s 0 17 ([s0, s1].map (sesL 0)) []), .c (.f 66 [.f AG [] [.p 0 (wsL R0 R1 R2 R3) 0]] [])] K) = (bif ZaA s0 then bif !Zal R0 R1 R2 R3 s0 then K (DV.c (D.v (Value.bool false))) else bif ZaA s1 then bif !Zal R0 R1 R2 R3 s1 then K (DV.c (D.v (Value.bool false))) else K (DV.c (D.v (Value.bool true))) else False else False) := by kernel_rfl
theorem ZsW (R0 R1 R2 R3 : List (List D)) (s0 s1 s2 : SesD) (K : DV → Prop) : (askX Tryz.prog band bor [] [] [(103, iCoS)] Tryz.f65 [.c (.s 0 17 ([s0, s1, s2].map (sesL 0)) []), .c (.f 66 [.f AG [] [.p 0 (wsL R0 R1 R2 R3) 0]] [])] K) = (bif ZaA s0 then bif !Zal R0 R1 R2 R3 s0 then K (DV.c (D.v (Value.bool false))) else bif ZaA s1 then bif !Zal R0 R1 R2 R3 s1 then K (DV.c (D.v (Value.bool false))) else bif ZaA s2 then bif !Zal R0 R1 R2 R3 s2 then K (DV.c (D.v (Value.bool false))) else K (DV.c (D.v (Value.bool true))) else False else False else False) := by kernel_rfl
theorem ZsZ (R0 R1 R2 R3 : List (List D)) (s0 s1 s2 s3 : SesD) (K : DV → Prop) : (askX Tryz.prog band bor [] [] [(103, iCoS)] Tryz.f65 [.c (.s 0 17 ([s0, s1, s2, s3].map (sesL 0)) []), .c (.f 66 [.f AG [] [.p 0 (wsL R0 R1 R2 R3) 0]] [])] K) = (bif ZaA s0 then bif !Zal R0 R1 R2 R3 s0 then K (DV.c (D.v (Value.bool false))) else bif ZaA s1 then bif !Zal R0 R1 R2 R3 s1 then K (DV.c (D.v (Value.bool false))) else bif ZaA s2 then bif !Zal R0 R1 R2 R3 s2 then K (DV.c (D.v (Value.bool false))) else bif ZaA s3 then bif !Zal R0 R1 R2 R3 s3 then K (DV.c (D.v (Value.bool false))) else K (DV.c (D.v (Value.bool true))) else False else False else False else False) := by kernel_rfl
def okSS (ss : List SesD) : Bool := ss.all ZaA
theorem Zvb (R0 R1 R2 R3 : List (List D)) : ∀ (ss : List SesD), ss.length ≤ 4 → okSS ss = true → CT Tryz.prog 65 [.c (.s 0 17 (ss.map (sesL 0)) []), .c (.f 66 [.f AG [] [.p 0 (wsL R0 R1 R2 R3) 0]] [])] (B (ss.all (Zal R0 R1 R2 R3))) := by
  intro ss hl hok
  unfold okSS at hok
  rcases ss with _ | ⟨s0, _ | ⟨s1, _ | ⟨s2, _ | ⟨s3, _ | ⟨s4, l⟩⟩⟩⟩⟩
  · refine ct_x .nil .nil (.cons Zgy .nil) mixed Tryz.func65 rfl rfl rfl ?_
    rw [Zs4]
    refine ⟨?_⟩
    simp only [List.all_cons, List.all_nil, Bool.and_eq_true, Bool.and_true] at hok
    simp only [hok, cond_true, List.all_cons, List.all_nil, bifN, Bool.and_true, Bool.and_assoc]
  · refine ct_x .nil .nil (.cons Zgy .nil) mixed Tryz.func65 rfl rfl rfl ?_
    rw [Zt2]
    refine ⟨?_⟩
    simp only [List.all_cons, List.all_nil, Bool.and_eq_true, Bool.and_true] at hok
    simp only [hok, cond_true, List.all_cons, List.all_nil, bifN, Bool.and_true, Bool.and_assoc]
  · refine ct_x .nil .nil (.cons Zgy .nil) mixed Tryz.func65 rfl rfl rfl ?_
    rw [Ztl]
    refine ⟨?_⟩
    simp only [List.all_cons, List.all_nil, Bool.and_eq_true, Bool.and_true] at hok
    simp only [hok, cond_true, List.all_cons, List.all_nil, bifN, Bool.and_true, Bool.and_assoc]
  · refine ct_x .nil .nil (.cons Zgy .nil) mixed Tryz.func65 rfl rfl rfl ?_
    rw [ZsW]
    refine ⟨?_⟩
    simp only [List.all_cons, List.all_nil, Bool.and_eq_true, Bool.and_true] at hok
    simp only [hok, cond_true, List.all_cons, List.all_nil, bifN, Bool.and_true, Bool.and_assoc]
  · refine ct_x .nil .nil (.cons Zgy .nil) mixed Tryz.func65 rfl rfl rfl ?_
    rw [ZsZ]
    refine ⟨?_⟩
    simp only [List.all_cons, List.all_nil, Bool.and_eq_true, Bool.and_true] at hok
    simp only [hok, cond_true, List.all_cons, List.all_nil, bifN, Bool.and_true, Bool.and_assoc]
  · simp at hl
def Zkv : Spec := fun ds Q => match ds with
  | [.c d, .c e] => cond d.isOwn False (ZlP d fun ss => ZgN 66 e fun R0 R1 R2 R3 => cond (Nat.ble ss.length 4 && okSS ss) (Q (B (ss.all (Zal R0 R1 R2 R3)))) False)
  | _ => False
theorem Zoy : Zad Tryz.prog 65 Zkv := o_al Tryz.func65 (by kernel_rfl) rfl fun ds Q h => by
  unfold Zkv at h; split at h
  · rename_i d e
    cases hd : d.isOwn with
    | true => rw [hd] at h; exact h.elim
    | false =>
      rw [hd] at h
      obtain ⟨ss, h, r1⟩ := Zd2 h
      obtain ⟨R0, R1, R2, R3, h, r2, e2⟩ := Zcg (by decide) h
      obtain ⟨h1, h2⟩ := Zaf h
      rw [Bool.and_eq_true] at h1
      exact ⟨_, _, .cons (.c r1 hd rfl) (.cons (.c r2 e2 rfl) .nil), Zvb R0 R1 R2 R3 ss (Nat.le_of_ble_eq_true h1.1) h1.2, rfl, rfl, h2⟩
  · exact h.elim
def Zdl : List SesD → Bool
  | a :: b :: l => !decide (a.id ≥ b.id) && Zdl (b :: l)
  | _ => true
def clkB (h : Mh) : Bool := ck4 h.c0 h.c1 h.c2 h.c3 && clk h.ce
def mmay (h : Mh) (ss : List SesD) : Bool := amay (toZ h.w0) (toZ h.w1) (toZ h.w2) (toZ h.w3) && (clkB h && (!decide (mx4 h.c0 h.c1 h.c2 h.c3 > h.ce) && (!decide ((ss.length : Int) > 4) && (!decide ((h.tr.length : Int) > 512) && (Zdl ss && (ss.all (Zal h.w0 h.w1 h.w2 h.w3) && !(toZ h.tr).any noEv))))))
def okM (h : Mh) (ss : List SesD) : Bool := okA h.w0 h.w1 h.w2 h.w3 && (okZ 4 h.tr && okSS ss)
theorem eMM0 (h : Mh) (K : DV → Prop) : (ask Tryz.prog [(60, ZcG), (61, sCkM), (62, sMx), (65, Zkv), (67, ZgF)] Tryz.f26 [.agg (macL 0 h [])] K) = (bif okA h.w0 h.w1 h.w2 h.w3 then bif !amay (toZ h.w0) (toZ h.w1) (toZ h.w2) (toZ h.w3) then K (DV.c (D.v (Value.bool false))) else bif !(ck4 h.c0 h.c1 h.c2 h.c3 && clk h.ce) then K (DV.c (D.v (Value.bool false))) else bif decide (mx4 h.c0 h.c1 h.c2 h.c3 > h.ce) then K (DV.c (D.v (Value.bool false))) else bif decide (@Nat.cast Int _ (List.length h.tr) > 512) then K (DV.c (D.v (Value.bool false))) else bif okZ (4) h.tr then K (DV.c (D.v (Value.bool !List.any (toZ h.tr) noEv))) else False else False) := by kernel_rfl
theorem eMM1 (h : Mh) (s0 : SesD) (K : DV → Prop) : (ask Tryz.prog [(60, ZcG), (61, sCkM), (62, sMx), (65, Zkv), (67, ZgF)] Tryz.f26 [.agg (macL 0 h [s0])] K) = (bif okA h.w0 h.w1 h.w2 h.w3 then bif !amay (toZ h.w0) (toZ h.w1) (toZ h.w2) (toZ h.w3) then K (DV.c (D.v (Value.bool false))) else bif !(ck4 h.c0 h.c1 h.c2 h.c3 && clk h.ce) then K (DV.c (D.v (Value.bool false))) else bif decide (mx4 h.c0 h.c1 h.c2 h.c3 > h.ce) then K (DV.c (D.v (Value.bool false))) else bif decide (@Nat.cast Int _ (List.length h.tr) > 512) then K (DV.c (D.v (Value.bool false))) else bif Nat.ble (1) (OfNat.ofNat (4)) && okSS [s0] then bif List.all [s0] (Zal h.w0 h.w1 h.w2 h.w3) then bif okZ (4) h.tr then K (DV.c (D.v (Value.bool !List.any (toZ h.tr) noEv))) else False else K (DV.c (D.v (Value.bool false))) else False else False) := by kernel_rfl
theorem eMM2 (h : Mh) (s0 s1 : SesD) (K : DV → Prop) : (ask Tryz.prog [(60, ZcG), (61, sCkM), (62, sMx), (65, Zkv), (67, ZgF)] Tryz.f26 [.agg (macL 0 h [s0, s1])] K) = (bif okA h.w0 h.w1 h.w2 h.w3 then bif !amay (toZ h.w0) (toZ h.w1) (toZ h.w2) (toZ h.w3) then K (DV.c (D.v (Value.bool false))) else bif !(ck4 h.c0 h.c1 h.c2 h.c3 && clk h.ce) then K (DV.c (D.v (Value.bool false))) else bif decide (mx4 h.c0 h.c1 h.c2 h.c3 > h.ce) then K (DV.c (D.v (Value.bool false))) else bif decide (@Nat.cast Int _ (List.length h.tr) > 512) then K (DV.c (D.v (Value.bool false))) else bif decide (s0.id ≥ s1.id) then K (DV.c (D.v (Value.bool false))) else bif Nat.ble (2) (OfNat.ofNat (4)) && okSS [s0, s1] then bif List.all [s0, s1] (Zal h.w0 h.w1 h.w2 h.w3) then bif okZ (4) h.tr then K (DV.c (D.v (Value.bool !List.any (toZ h.tr) noEv))) else False else K (DV.c (D.v (Value.bool false))) else False else False) := by kernel_rfl
theorem eMM3 (h : Mh) (s0 s1 s2 : SesD) (K : DV → Prop) : (ask Tryz.prog [(60, ZcG), (61, sCkM), (62, sMx), (65, Zkv), (67, ZgF)] Tryz.f26 [.agg (macL 0 h [s0, s1, s2])] K) = (bif okA h.w0 h.w1 h.w2 h.w3 then bif !amay (toZ h.w0) (toZ h.w1) (toZ h.w2) (toZ h.w3) then K (DV.c (D.v (Value.bool false))) else bif !(ck4 h.c0 h.c1 h.c2 h.c3 && clk h.ce) then K (DV.c (D.v (Value.bool false))) else bif decide (mx4 h.c0 h.c1 h.c2 h.c3 > h.ce) then K (DV.c (D.v (Value.bool false))) else bif decide (@Nat.cast Int _ (List.length h.tr) > 512) then K (DV.c (D.v (Value.bool false))) else bif decide (s0.id ≥ s1.id) then K (DV.c (D.v (Value.bool false))) else bif decide (s1.id ≥ s2.id) then K (DV.c (D.v (Value.bool false))) else bif Nat.ble (3) (OfNat.ofNat (4)) && okSS [s0, s1, s2] then bif List.all [s0, s1, s2] (Zal h.w0 h.w1 h.w2 h.w3) then bif okZ (4) h.tr then K (DV.c (D.v (Value.bool !List.any (toZ h.tr) noEv))) else False else K (DV.c (D.v (Value.bool false))) else False else False) := by kernel_rfl
theorem eMM4 (h : Mh) (s0 s1 s2 s3 : SesD) (K : DV → Prop) : (ask Tryz.prog [(60, ZcG), (61, sCkM), (62, sMx), (65, Zkv), (67, ZgF)] Tryz.f26 [.agg (macL 0 h [s0, s1, s2, s3])] K) = (bif okA h.w0 h.w1 h.w2 h.w3 then bif !amay (toZ h.w0) (toZ h.w1) (toZ h.w2) (toZ h.w3) then K (DV.c (D.v (Value.bool false))) else bif !(ck4 h.c0 h.c1 h.c2 h.c3 && clk h.ce) then K (DV.c (D.v (Value.bool false))) else bif decide (mx4 h.c0 h.c1 h.c2 h.c3 > h.ce) then K (DV.c (D.v (Value.bool false))) else bif decide (@Nat.cast Int _ (List.length h.tr) > 512) then K (DV.c (D.v (Value.bool false))) else bif decide (s0.id ≥ s1.id) then K (DV.c (D.v (Value.bool false))) else bif decide (s1.id ≥ s2.id) then K (DV.c (D.v (Value.bool false))) else bif decide (s2.id ≥ s3.id) then K (DV.c (D.v (Value.bool false))) else bif Nat.ble (4) (OfNat.ofNat (4)) && okSS [s0, s1, s2, s3] then bif List.all [s0, s1, s2, s3] (Zal h.w0 h.w1 h.w2 h.w3) then bif okZ (4) h.tr then K (DV.c (D.v (Value.bool !List.any (toZ h.tr) noEv))) else False else K (DV.c (D.v (Value.bool false))) else False else False) := by kernel_rfl
theorem eMMB (h : Mh) (R sp : List (List D)) (K : DV → Prop) : (askL Tryz.prog [(60, ZcG), (61, sCkM), (62, sMx)] [(4, fun _ _ => False)] Tryz.f26 [.agg [.s 0 3 h.w0 [], .s 0 3 h.w1 [], .s 0 3 h.w2 [], .s 0 3 h.w3 [], vN h.c0, vN h.c1, vN h.c2, vN h.c3, vN h.ce, .s 0 17 R sp, .s 0 4 h.tr []]] K) = (bif okA h.w0 h.w1 h.w2 h.w3 then bif !amay (toZ h.w0) (toZ h.w1) (toZ h.w2) (toZ h.w3) then K (DV.c (D.v (Value.bool false))) else bif !(ck4 h.c0 h.c1 h.c2 h.c3 && clk h.ce) then K (DV.c (D.v (Value.bool false))) else bif decide (mx4 h.c0 h.c1 h.c2 h.c3 > h.ce) then K (DV.c (D.v (Value.bool false))) else bif decide (@Nat.cast Int _ (List.length R) > 4) then K (DV.c (D.v (Value.bool false))) else bif decide (@Nat.cast Int _ (List.length h.tr) > 512) then K (DV.c (D.v (Value.bool false))) else False else False) := by kernel_rfl
theorem bifP (p q : Bool) (x : DV) : (bif p then (DV.c (.v (.bool false)) = x) else (DV.c (.v (.bool q)) = x)) = (DV.c (.v (.bool (!p && q))) = x) := by cases p <;> rfl
theorem ZlT {P : Program} {l : List (FuncId × Spec)} {k : Nat} {c : Code} : ZaE P (hkl l [(k, fun _ _ => False)]) c := fun b hb s hs Q x hq => by
  have hs' : Zde [(k, fun _ _ => False)] (ZbC b) = some s := hs
  unfold Zde at hs'
  split at hs'
  · cases hs'; exact hq.elim
  · cases hs'
theorem ZbH {h : Mh} {ss : List SesD} (hm : okM h ss = true) : okA h.w0 h.w1 h.w2 h.w3 = true ∧ okZ 4 h.tr = true ∧ okSS ss = true := by
  unfold okM at hm; simpa [Bool.and_eq_true] using hm
theorem ZuG (h : Mh) (ss : List SesD) (hok : okM h ss = true) : CT Tryz.prog 26 [.agg (macL 0 h ss)] (B (mmay h ss)) := by
  obtain ⟨h1, h2, h3⟩ := ZbH hok
  rcases ss with _ | ⟨s0, _ | ⟨s1, _ | ⟨s2, _ | ⟨s3, _ | ⟨s4, l⟩⟩⟩⟩⟩
  · refine ct_s (.cons Znt (.cons oCkM (.cons oMx (.cons Zoy (.cons ZjO .nil))))) mixed Tryz.func26 rfl rfl rfl ?_
    rw [eMM0]
    refine ⟨?_⟩
    simp only [h1, h2, h3, cond_true, bifN, bifP, bifK, Bool.and_true, (by decide : Nat.ble 0 4 = true), Bool.true_and]
    unfold mmay clkB
    simp [Zdl, Bool.and_assoc]
  · refine ct_s (.cons Znt (.cons oCkM (.cons oMx (.cons Zoy (.cons ZjO .nil))))) mixed Tryz.func26 rfl rfl rfl ?_
    rw [eMM1]
    refine ⟨?_⟩
    simp only [h1, h2, h3, cond_true, bifN, bifP, bifK, Bool.and_true, (by decide : Nat.ble 1 4 = true), Bool.true_and]
    unfold mmay clkB
    simp [Zdl, Bool.and_assoc]
  · refine ct_s (.cons Znt (.cons oCkM (.cons oMx (.cons Zoy (.cons ZjO .nil))))) mixed Tryz.func26 rfl rfl rfl ?_
    rw [eMM2]
    refine ⟨?_⟩
    simp only [h1, h2, h3, cond_true, bifN, bifP, bifK, Bool.and_true, (by decide : Nat.ble 2 4 = true), Bool.true_and]
    unfold mmay clkB
    simp [Zdl, Bool.and_assoc]
  · refine ct_s (.cons Znt (.cons oCkM (.cons oMx (.cons Zoy (.cons ZjO .nil))))) mixed Tryz.func26 rfl rfl rfl ?_
    rw [eMM3]
    refine ⟨?_⟩
    simp only [h1, h2, h3, cond_true, bifN, bifP, bifK, Bool.and_true, (by decide : Nat.ble 3 4 = true), Bool.true_and]
    unfold mmay clkB
    simp [Zdl, Bool.and_assoc]
  · refine ct_s (.cons Znt (.cons oCkM (.cons oMx (.cons Zoy (.cons ZjO .nil))))) mixed Tryz.func26 rfl rfl rfl ?_
    rw [eMM4]
    refine ⟨?_⟩
    simp only [h1, h2, h3, cond_true, bifN, bifP, bifK, Bool.and_true, (by decide : Nat.ble 4 4 = true), Bool.true_and]
    unfold mmay clkB
    simp [Zdl, Bool.and_assoc]
  · refine Zjc (l := [(60, ZcG), (61, sCkM), (62, sMx)]) (m := [(4, fun _ _ => False)]) (.cons Znt (.cons oCkM (.cons oMx .nil))) mixed ZlT Tryz.func26 rfl rfl rfl ?_
    unfold macL
    rw [eMMB]
    refine ⟨?_⟩
    have h5 : decide (((List.map (sesL 0) (s0 :: s1 :: s2 :: s3 :: s4 :: l)).length : Int) > 4) = true := by simp; omega
    have h6 : decide (((s0 :: s1 :: s2 :: s3 :: s4 :: l).length : Int) > 4) = true := by simp; omega
    unfold mmay clkB
    simp only [h1, h5, h6, cond_true, bifN, bifP, Bool.not_true, Bool.false_and, Bool.not_not]
theorem eThe (h : Mh) (ss : List SesD) (at' : Int) (K : DV → Prop) : (ask Tryz.prog [(26, sAtD [.agg (macL 0 h ss)] (B (mmay h ss)))] Tryz.f52 [.c (.p 0 (macL 0 h ss) 0), I at'] K) = ([DV.agg (macL (0) h ss)] = [DV.agg (macL (0) h ss)] ∧ bif mmay h ss then bif decide (at' ≥ 0) then K (DV.c (D.v (Value.bool (decide (at' < @Nat.cast Int _ (List.length (List.map (sesL (0)) ss))))))) else K (DV.c (D.v (Value.bool false))) else K (DV.c (D.v (Value.bool false)))) := by kernel_rfl
def Zcc (h : Mh) (ss : List SesD) (i : Int) : Bool := mmay h ss && (decide (i ≥ 0) && decide (i < ss.length))
theorem Zu4 : Goes Tryz.prog 26 := Zao Tryz.func26 (by kernel_rfl) rfl
theorem cThe (h : Mh) (ss : List SesD) (i : Int) (hok : okM h ss = true) : CT Tryz.prog 52 [.c (.p 0 (macL 0 h ss) 0), I i] (B (Zcc h ss i)) := by
  refine ct_s (.cons (oAtD Zu4 (ZuG h ss hok) rfl rfl) .nil) mixed Tryz.func52 rfl rfl rfl ?_
  rw [eThe]
  refine ⟨rfl, ?_⟩
  unfold Zcc
  rw [List.length_map]
  simp only [bifK]
end

section
open Go Go.Proofs
def iIxI : Inl := inlM Tryz.prog [] [] [] Tryz.f179
theorem ZoV : Zbi Tryz.prog 179 iIxI := Zbn .nil .nil .nil mixed Tryz.func179 rfl (Zao Tryz.func179 (by kernel_rfl) rfl)
theorem ZuH (a x : Int) (K : DV → Prop) : (askH Tryz.prog (hkM [] [] [(179, iIxI)]) Tryz.f134 [.c (.s 0 1 [[vi a]] []), I x] K) = (bif x == a then K (DV.c (D.v (Value.bool true))) else K (DV.c (D.v (Value.bool false)))) := by kernel_rfl
theorem Zu1 (a b c x : Int) (K : DV → Prop) : (askH Tryz.prog (hkM [] [] [(179, iIxI)]) Tryz.f134 [.c (.s 0 1 [[vi a], [vi b], [vi c]] []), I x] K) = (bif x == a then K (DV.c (D.v (Value.bool true))) else bif x == b then K (DV.c (D.v (Value.bool true))) else bif x == c then K (DV.c (D.v (Value.bool true))) else K (DV.c (D.v (Value.bool false)))) := by kernel_rfl
def has1 (a x : Int) : Bool := bif x == a then true else false
def has3 (a b c x : Int) : Bool := bif x == a then true else bif x == b then true else bif x == c then true else false
def sHas : Spec := fun ds Q => match ds with
  | [.c (.s 0 1 [[.v (.int .i64 a)]] []), .c (.v (.int .i64 x))] => Q (B (has1 a x))
  | [.c (.s 0 1 [[.v (.int .i64 a)], [.v (.int .i64 b)], [.v (.int .i64 c)]] []), .c (.v (.int .i64 x))] => Q (B (has3 a b c x))
  | _ => False
theorem oHas : Zad Tryz.prog 134 sHas := o_of Tryz.func134 (by kernel_rfl) rfl fun ds Q h => by
  unfold sHas at h; split at h
  · rename_i a x
    refine ⟨_, ct_m .nil .nil (.cons ZoV .nil) mixed Tryz.func134 rfl rfl rfl ?_, rfl, rfl, h⟩
    rw [ZuH]
    refine ⟨?_⟩
    unfold has1; cases x == a <;> rfl
  · rename_i a b c x
    refine ⟨_, ct_m .nil .nil (.cons ZoV .nil) mixed Tryz.func134 rfl rfl rfl ?_, rfl, rfl, h⟩
    rw [Zu1]
    refine ⟨?_⟩
    unfold has3; cases x == a <;> cases x == b <;> cases x == c <;> rfl
  · exact h.elim
def Zl2 (s : SesD) : Int := hdJ (s.pg.getD s.pc.toNat [])
def atS (p : Int → Bool) (s : SesD) : Bool := (s.st == 0) && (decide (s.pc < s.pg.length) && p (Zl2 s))
def mAt (p : Int → Bool) (h : Mh) (ss : List SesD) (i : Int) : Bool := Zcc h ss i && (match ss[i.toNat]? with | some s => atS p s | none => false)
theorem ZrW {z : Nat} {R : List (List D)} (h : okZ (z + 1) R = true) {k : Nat} (hk : k < R.length) : isJ [IntKind.i64] (R.getD k []) = true := by
  obtain ⟨e, w, _⟩ := Zag h
  rw [e] at hk ⊢
  rw [Zah] at hk
  exact Zas (j := 0) (n := 1) w hk (by omega)
theorem ZrO {s : SesD} (hs : ZaA s = true) (h0 : 0 ≤ s.pc) (p : Int → Bool) (K : DV → Prop) :
    (bif s.st == 0 then bif decide (s.pc < @Nat.cast Int _ (List.length s.pg)) then bif decide (0 ≤ s.pc) && decide (s.pc < @Nat.cast Int _ (List.length s.pg)) then bif isJ [IntKind.i64] (List.drop 0 (List.getD s.pg (Int.toNat s.pc) [])) then K (DV.c (D.v (Value.bool (p (hdJ (List.drop 0 (List.getD s.pg (Int.toNat s.pc) []))))))) else False else False else K (DV.c (D.v (Value.bool false))) else K (DV.c (D.v (Value.bool false)))) = K (.c (.v (.bool (atS p s)))) := by
  unfold atS Zl2
  rw [List.drop_zero]
  cases hst : s.st == 0
  · simp only [cond_false, Bool.false_and]
  · cases hl : decide (s.pc < @Nat.cast Int _ (List.length s.pg))
    · simp only [cond_true, cond_false, Bool.true_and, Bool.false_and]
    · have hl' := of_decide_eq_true hl
      have hj := ZrW (z := 3) (by unfold ZaA at hs; simp only [Bool.and_eq_true] at hs; exact hs.1) (show s.pc.toNat < s.pg.length by omega)
      simp only [cond_true, Bool.true_and, decide_eq_true h0, hj]
theorem Zc1 {h : Mh} {ss : List SesD} {i : Int} (hm : Zcc h ss i = true) : mmay h ss = true ∧ 0 ≤ i ∧ i < ss.length := by
  unfold Zcc at hm; simpa [Bool.and_eq_true] using hm
theorem ZfG {h : Mh} {ss : List SesD} (hm : mmay h ss = true) : ss.length ≤ 4 ∧ ∀ s ∈ ss, Zal h.w0 h.w1 h.w2 h.w3 s = true := by
  unfold mmay at hm
  simp only [Bool.and_eq_true, Bool.not_eq_true', decide_eq_false_iff_not, List.all_eq_true] at hm
  exact ⟨by omega, hm.2.2.2.2.2.2.1⟩
theorem Zes {R0 R1 R2 R3 : List (List D)} {s : SesD} (h : Zal R0 R1 R2 R3 s = true) : 0 ≤ s.pc ∧ s.pc ≤ s.pg.length := by
  unfold Zal farB upto at h
  simp only [Bool.and_eq_true, decide_eq_true_eq] at h
  omega
theorem Zi8 {h : Mh} {ss : List SesD} {i : Int} (hok : okM h ss = true) (hm : Zcc h ss i = true) : ∃ s, ss[i.toNat]? = some s ∧ ZaA s = true ∧ Zal h.w0 h.w1 h.w2 h.w3 s = true := by
  obtain ⟨g0, g1, g2⟩ := Zc1 hm
  have hl : i.toNat < ss.length := by omega
  have hmem : ss[i.toNat] ∈ ss := List.getElem_mem hl
  exact ⟨ss[i.toNat], List.getElem?_eq_getElem hl, List.all_eq_true.1 (ZbH hok).2.2 _ hmem, (ZfG g0).2 _ hmem⟩
theorem eAt3 (h : Mh) (ss : List SesD) (i : Int) (a b c : Int) (t : Bool) (K : DV → Prop) : (askH Tryz.prog (hkF [(52, sAtD [.c (.p 0 (macL 0 h ss) 0), I i] (B t)), (134, sHas)] [] []) Tryz.f80 [.c (.p 0 (macL 0 h ss) 0), I i, .c (.s 0 1 [[vi a], [vi b], [vi c]] [])] K) = ([DV.c (D.p (0) (macL (0) h ss) (0)), I i] = [DV.c (D.p (0) (macL (0) h ss) (0)), I i] ∧ bif !t then K (DV.c (D.v (Value.bool false))) else bif decide (0 ≤ i) && decide (i < @Nat.cast Int _ (List.length (List.map (sesL (0)) ss))) then ∃ s, Zdu (List.map (sesL (0)) ss) (Int.toNat i) (0) s ∧ bif s.st == 0 then bif decide (s.pc < @Nat.cast Int _ (List.length s.pg)) then bif decide (0 ≤ s.pc) && decide (s.pc < @Nat.cast Int _ (List.length s.pg)) then bif isJ [IntKind.i64] (List.drop (0) (List.getD s.pg (Int.toNat s.pc) [])) then K (DV.c (D.v (Value.bool (has3 a b c (hdJ (List.drop (0) (List.getD s.pg (Int.toNat s.pc) []))))))) else False else False else K (DV.c (D.v (Value.bool false))) else K (DV.c (D.v (Value.bool false))) else False) := by kernel_rfl
theorem cAt3 (h : Mh) (ss : List SesD) (i : Int) (a b c : Int) (hok : okM h ss = true) : CT Tryz.prog 80 [.c (.p 0 (macL 0 h ss) 0), I i, .c (.s 0 1 [[vi a], [vi b], [vi c]] [])] (B (mAt (has3 a b c) h ss i)) := by
  refine Zry (ZfQ (.cons (oAtD (Zao Tryz.func52 (by kernel_rfl) rfl) (cThe h ss i hok) rfl rfl) (.cons oHas .nil)) .nil .nil) mixed Zj7 Tryz.func80 rfl rfl rfl ?_
  rw [eAt3]
  refine ⟨⟨rfl, ?_⟩⟩
  unfold mAt
  cases hm : Zcc h ss i with
  | false => exact AL.refl _
  | true =>
    obtain ⟨g0, g1, g2⟩ := Zc1 hm
    obtain ⟨s, hs, ho, hy⟩ := Zi8 hok hm
    simp only [Bool.not_true, cond_false, cond_true, decide_eq_true g1, List.length_map, decide_eq_true g2, Bool.and_self, hs, Bool.true_and]
    refine ⟨s, ZeD hs, ?_⟩
    have e := ZrO ho (Zes hy).1 (has3 a b c) (fun r => AL r (B (atS (has3 a b c) s)))
    simp only [e]
    exact AL.refl _
end

section
open Go Go.Proofs
def kX (R : List (List D)) : Bool := decide (List.length R ≤ List.length (R ++ [])) && List.all (R ++ []) fun r => List.all r D.keeps
def tC (R : List (List D)) : List (List D) := List.take (List.length R) (R ++ [])
def tD (R : List (List D)) : List (List D) := List.take (List.length R + 0 - List.length R) (List.drop (List.length R) (R ++ []))
def sTt (s : SesD) : List D := [vN s.id, vN s.lb, vN s.cl, .s 1 4 (tC s.pg) (tD s.pg), vN s.st, vN s.pc, vN s.r0, vN s.r1, vN s.r2, vN s.r3, .s 1 3 (tC s.rd) (tD s.rd), .s 1 3 (tC s.wt) (tD s.wt), vN s.at', vN s.sp, vN s.tr, vN s.rs, vN s.to]
theorem ZuN (s : SesD) (K : DV → Prop) : (ask Tryz.prog [(90, Zd5), (149, ZdT), (137, ZdA)] Tryz.f96 [.agg (sesL 0 s)] K) = (bif allV s.pg && decide (List.length s.pg ≤ 4398046510977) then bif allV s.rd && decide (List.length s.rd ≤ 5864062014635) then bif allV s.wt && decide (List.length s.wt ≤ 5864062014635) then bif kX s.pg then bif kX s.rd then bif kX s.wt then K (DV.agg (sTt s)) else False else False else False else False else False else False) := by kernel_rfl
def smR (n : Nat) (R : List (List D)) : Bool := allV R && decide (R.length ≤ n)
def smS (s : SesD) : Bool := smR 4398046510977 s.pg && (smR 5864062014635 s.rd && smR 5864062014635 s.wt)
def smM (h : Mh) (ss : List SesD) : Bool := okC4 h.w0 h.w1 h.w2 h.w3 && (smR 4398046510977 h.tr && ss.all smS)
theorem Zac {n : Nat} {R : List (List D)} (h : smR n R = true) : allV R = true ∧ R.length ≤ n ∧ (R.all fun r => r.all D.keeps) = true := by
  unfold smR at h
  simp only [Bool.and_eq_true, decide_eq_true_eq] at h
  exact ⟨h.1, h.2, Zaw h.1⟩
theorem ZcA {n z m : Nat} {R : List (List D)} (h : okZ z R = true) (hl : R.length ≤ m) (hm : m ≤ n) : smR n R = true := by
  unfold smR
  rw [Zaa h, decide_eq_true (by omega : R.length ≤ n)]; rfl
theorem ZaI {s : SesD} (h : smS s = true) : smR 4398046510977 s.pg = true ∧ smR 5864062014635 s.rd = true ∧ smR 5864062014635 s.wt = true := by
  unfold smS at h; simpa [Bool.and_eq_true] using h
theorem ZbJ (R : List (List D)) : List.take R.length R = R := List.take_length
theorem ZfD {s : SesD} (h : smS s = true) : ownL (sesL 1 s) = true := by
  obtain ⟨h1, h2, h3⟩ := ZaI h
  simp only [sesL, ownL, D.pureOwn, ZaU (Zac h1).1, ZaU (Zac h2).1, ZaU (Zac h3).1, Zel]; rfl
theorem ZuV (s : SesD) (hs : smS s = true) : CT Tryz.prog 96 [.agg (sesL 0 s)] (.agg (sesL 1 s)) := by
  obtain ⟨h1, h2, h3⟩ := ZaI hs
  obtain ⟨a1, a2, a3⟩ := Zac h1
  obtain ⟨b1, b2, b3⟩ := Zac h2
  obtain ⟨c1, c2, c3⟩ := Zac h3
  refine ct_s (.cons ZlF (.cons ZkC (.cons Zjf .nil))) mixed Tryz.func96 rfl rfl rfl ?_
  rw [ZuN]
  refine ⟨?_⟩
  simp only [kX, tC, tD, sTt]
  simp only [a1, a2, a3, b1, b2, b3, c1, c2, c3, List.append_nil, Nat.le_refl, decide_true, Bool.and_self, cond_true, ZbJ, Nat.add_zero, Nat.sub_self, List.take_zero]
  rfl
def Zcv : Spec := fun ds Q => match ds with
  | [d] => sesA d fun s => cond (smS s) (Q (.agg (sesL 1 s))) False
  | _ => False
theorem ZoT : Zad Tryz.prog 96 Zcv := o_al Tryz.func96 (by kernel_rfl) rfl fun ds Q h => by
  unfold Zcv at h; split at h
  · obtain ⟨s, h, r⟩ := ZbK h
    obtain ⟨h1, h2⟩ := Zaf h
    exact ⟨_, _, .cons r .nil, ZuV s h1, ZfD h1, rfl, h2⟩
  · exact h.elim
theorem Zvy (K : DV → Prop) : (ask Tryz.prog [] Tryz.f94 [.c (.s 0 17 ([].map (sesL 0)) [])] K) = (K (DV.c (D.s (1) (17) [] [])) ∧ K (DV.c (D.s (1) (17) [] []))) := by kernel_rfl
theorem ZvJ (s0 : SesD) (K : DV → Prop) : (ask Tryz.prog [] Tryz.f94 [.c (.s 0 17 ([s0].map (sesL 0)) [])] K) = (True ∧ K (DV.c (D.s (1) (17) [(sesL (0) s0)] []))) := by kernel_rfl
theorem Zvu (s0 s1 : SesD) (K : DV → Prop) : (ask Tryz.prog [] Tryz.f94 [.c (.s 0 17 ([s0, s1].map (sesL 0)) [])] K) = (True ∧ K (DV.c (D.s (1) (17) [(sesL (0) s0), (sesL (0) s1)] []))) := by kernel_rfl
theorem ZvP (s0 s1 s2 : SesD) (K : DV → Prop) : (ask Tryz.prog [] Tryz.f94 [.c (.s 0 17 ([s0, s1, s2].map (sesL 0)) [])] K) = (True ∧ K (DV.c (D.s (1) (17) [(sesL (0) s0), (sesL (0) s1), (sesL (0) s2)] []))) := by kernel_rfl
theorem ZvE (s0 s1 s2 s3 : SesD) (K : DV → Prop) : (ask Tryz.prog [] Tryz.f94 [.c (.s 0 17 ([s0, s1, s2, s3].map (sesL 0)) [])] K) = (True ∧ K (DV.c (D.s (1) (17) [(sesL (0) s0), (sesL (0) s1), (sesL (0) s2), (sesL (0) s3)] []))) := by kernel_rfl
theorem cClS (ss : List SesD) (hl : ss.length ≤ 4) : CT Tryz.prog 94 [.c (.s 0 17 (ss.map (sesL 0)) [])] (.c (.s 1 17 (ss.map (sesL 0)) [])) := by
  rcases ss with _ | ⟨s0, _ | ⟨s1, _ | ⟨s2, _ | ⟨s3, _ | ⟨s4, l⟩⟩⟩⟩⟩
  · refine ct_s .nil mixed Tryz.func94 rfl rfl rfl ?_
    rw [Zvy]
    exact ⟨⟨rfl, rfl⟩⟩
  · refine ct_s .nil mixed Tryz.func94 rfl rfl rfl ?_
    rw [ZvJ]
    exact ⟨⟨trivial, rfl⟩⟩
  · refine ct_s .nil mixed Tryz.func94 rfl rfl rfl ?_
    rw [Zvu]
    exact ⟨⟨trivial, rfl⟩⟩
  · refine ct_s .nil mixed Tryz.func94 rfl rfl rfl ?_
    rw [ZvP]
    exact ⟨⟨trivial, rfl⟩⟩
  · refine ct_s .nil mixed Tryz.func94 rfl rfl rfl ?_
    rw [ZvE]
    exact ⟨⟨trivial, rfl⟩⟩
  · simp at hl
def sClS : Spec := fun ds Q => match ds with
  | [.c d] => cond d.isOwn False (ZlP d fun ss => cond (Nat.ble ss.length 4) (Q (.c (.s 1 17 (ss.map (sesL 0)) []))) False)
  | _ => False
theorem oClS : ZlG Tryz.prog 94 sClS := fun ds Q h => by
  refine ⟨Zao Tryz.func94 (by kernel_rfl) rfl, ?_⟩
  unfold sClS at h; split at h
  · rename_i d
    cases hd : d.isOwn with
    | true => rw [hd] at h; exact h.elim
    | false =>
      rw [hd] at h
      obtain ⟨ss, h, r⟩ := Zd2 h
      obtain ⟨h1, h2⟩ := Zaf h
      exact ⟨_, (cClS ss (Nat.le_of_ble_eq_true h1)).args (.cons (.c r hd rfl) .nil), rfl, h2⟩
  · exact h.elim
-- RSUB bif decide \(List\.length ([a-z0-9.]+) ≤ List\.length \(\1 \+\+ \[\]\)\) && List\.all \(\1 \+\+ \[\]\) fun r => List\.all r D\.keeps then =>> bif kX \1 then
-- RSUB List\.take \(List\.length ([a-z0-9.]+) \+ 0 - List\.length \1\) \(List\.drop \(List\.length \1\) \(\1 \+\+ \[\]\)\) =>> tD \1
-- RSUB List\.take \(List\.length ([a-z0-9.]+)\) \(\1 \+\+ \[\]\) =>> tC \1
-- RSUB \[vN ([a-z0-9]+)\.id, vN \1\.lb, vN \1\.cl, D\.s \(1\) \(4\) \(tC \1\.pg\) \(tD \1\.pg\), vN \1\.st, vN \1\.pc, vN \1\.r0, vN \1\.r1, vN \1\.r2, vN \1\.r3, D\.s \(1\) \(3\) \(tC \1\.rd\) \(tD \1\.rd\), D\.s \(1\) \(3\) \(tC \1\.wt\) \(tD \1\.wt\), vN \1\.at', vN \1\.sp, vN \1\.tr, vN \1\.rs, vN \1\.to\] =>> (sTt \1)
theorem ZuF (h : Mh) (K : DV → Prop) : (askH Tryz.prog (hkM [(93, ZbP), (95, Zbm), (96, Zcv)] [(94, sClS)] []) Tryz.f53 [.agg (macL 0 h [])] K) = (bif okC4 h.w0 h.w1 h.w2 h.w3 then bif allV h.tr && decide (List.length h.tr ≤ 4398046510977) then bif kX h.w0 then bif kX h.w1 then bif kX h.w2 then bif kX h.w3 then bif kX h.tr then K (DV.agg [D.s (1) (3) (tC h.w0) (tD h.w0), D.s (1) (3) (tC h.w1) (tD h.w1), D.s (1) (3) (tC h.w2) (tD h.w2), D.s (1) (3) (tC h.w3) (tD h.w3), vN h.c0, vN h.c1, vN h.c2, vN h.c3, vN h.ce, D.s (1) (17) [] [], D.s (1) (4) (tC h.tr) (tD h.tr)]) else False else False else False else False else False else False else False) := by kernel_rfl
theorem ZuW (h : Mh) (s0 : SesD) (K : DV → Prop) : (askH Tryz.prog (hkM [(93, ZbP), (95, Zbm), (96, Zcv)] [(94, sClS)] []) Tryz.f53 [.agg (macL 0 h [s0])] K) = (bif okC4 h.w0 h.w1 h.w2 h.w3 then bif allV h.tr && decide (List.length h.tr ≤ 4398046510977) then bif smS s0 then bif kX h.w0 then bif kX h.w1 then bif kX h.w2 then bif kX h.w3 then bif kX s0.pg then bif kX s0.rd then bif kX s0.wt then bif kX h.tr then K (DV.agg [D.s (1) (3) (tC h.w0) (tD h.w0), D.s (1) (3) (tC h.w1) (tD h.w1), D.s (1) (3) (tC h.w2) (tD h.w2), D.s (1) (3) (tC h.w3) (tD h.w3), vN h.c0, vN h.c1, vN h.c2, vN h.c3, vN h.ce, D.s (1) (17) [(sTt s0)] [], D.s (1) (4) (tC h.tr) (tD h.tr)]) else False else False else False else False else False else False else False else False else False else False else False) := by kernel_rfl
theorem Zwl (h : Mh) (s0 s1 : SesD) (K : DV → Prop) : (askH Tryz.prog (hkM [(93, ZbP), (95, Zbm), (96, Zcv)] [(94, sClS)] []) Tryz.f53 [.agg (macL 0 h [s0, s1])] K) = (bif okC4 h.w0 h.w1 h.w2 h.w3 then bif allV h.tr && decide (List.length h.tr ≤ 4398046510977) then bif smS s0 then bif smS s1 then bif kX h.w0 then bif kX h.w1 then bif kX h.w2 then bif kX h.w3 then bif kX s0.pg then bif kX s0.rd then bif kX s0.wt then bif kX s1.pg then bif kX s1.rd then bif kX s1.wt then bif kX h.tr then K (DV.agg [D.s (1) (3) (tC h.w0) (tD h.w0), D.s (1) (3) (tC h.w1) (tD h.w1), D.s (1) (3) (tC h.w2) (tD h.w2), D.s (1) (3) (tC h.w3) (tD h.w3), vN h.c0, vN h.c1, vN h.c2, vN h.c3, vN h.ce, D.s (1) (17) [(sTt s0), (sTt s1)] [], D.s (1) (4) (tC h.tr) (tD h.tr)]) else False else False else False else False else False else False else False else False else False else False else False else False else False else False else False) := by kernel_rfl
theorem Zvg (h : Mh) (s0 s1 s2 : SesD) (K : DV → Prop) : (askH Tryz.prog (hkM [(93, ZbP), (95, Zbm), (96, Zcv)] [(94, sClS)] []) Tryz.f53 [.agg (macL 0 h [s0, s1, s2])] K) = (bif okC4 h.w0 h.w1 h.w2 h.w3 then bif allV h.tr && decide (List.length h.tr ≤ 4398046510977) then bif smS s0 then bif smS s1 then bif smS s2 then bif kX h.w0 then bif kX h.w1 then bif kX h.w2 then bif kX h.w3 then bif kX s0.pg then bif kX s0.rd then bif kX s0.wt then bif kX s1.pg then bif kX s1.rd then bif kX s1.wt then bif kX s2.pg then bif kX s2.rd then bif kX s2.wt then bif kX h.tr then K (DV.agg [D.s (1) (3) (tC h.w0) (tD h.w0), D.s (1) (3) (tC h.w1) (tD h.w1), D.s (1) (3) (tC h.w2) (tD h.w2), D.s (1) (3) (tC h.w3) (tD h.w3), vN h.c0, vN h.c1, vN h.c2, vN h.c3, vN h.ce, D.s (1) (17) [(sTt s0), (sTt s1), (sTt s2)] [], D.s (1) (4) (tC h.tr) (tD h.tr)]) else False else False else False else False else False else False else False else False else False else False else False else False else False else False else False else False else False else False else False) := by kernel_rfl
theorem Zwf (h : Mh) (s0 s1 s2 s3 : SesD) (K : DV → Prop) : (askH Tryz.prog (hkM [(93, ZbP), (95, Zbm), (96, Zcv)] [(94, sClS)] []) Tryz.f53 [.agg (macL 0 h [s0, s1, s2, s3])] K) = (bif okC4 h.w0 h.w1 h.w2 h.w3 then bif allV h.tr && decide (List.length h.tr ≤ 4398046510977) then bif smS s0 then bif smS s1 then bif smS s2 then bif smS s3 then bif kX h.w0 then bif kX h.w1 then bif kX h.w2 then bif kX h.w3 then bif kX s0.pg then bif kX s0.rd then bif kX s0.wt then bif kX s1.pg then bif kX s1.rd then bif kX s1.wt then bif kX s2.pg then bif kX s2.rd then bif kX s2.wt then bif kX s3.pg then bif kX s3.rd then bif kX s3.wt then bif kX h.tr then K (DV.agg [D.s (1) (3) (tC h.w0) (tD h.w0), D.s (1) (3) (tC h.w1) (tD h.w1), D.s (1) (3) (tC h.w2) (tD h.w2), D.s (1) (3) (tC h.w3) (tD h.w3), vN h.c0, vN h.c1, vN h.c2, vN h.c3, vN h.ce, D.s (1) (17) [(sTt s0), (sTt s1), (sTt s2), (sTt s3)] [], D.s (1) (4) (tC h.tr) (tD h.tr)]) else False else False else False else False else False else False else False else False else False else False else False else False else False else False else False else False else False else False else False else False else False else False else False) := by kernel_rfl
theorem ZdG {h : Mh} {ss : List SesD} (hm : smM h ss = true) : (smR 5864062014635 h.w0 = true ∧ smR 5864062014635 h.w1 = true ∧ smR 5864062014635 h.w2 = true ∧ smR 5864062014635 h.w3 = true) ∧ smR 4398046510977 h.tr = true ∧ ∀ s ∈ ss, smS s = true := by
  unfold smM okC4 okC at hm
  simp only [Bool.and_eq_true, List.all_eq_true] at hm
  unfold smR
  simp only [Bool.and_eq_true]
  refine ⟨⟨hm.1.1, hm.1.2.1, hm.1.2.2.1, hm.1.2.2.2⟩, ?_, hm.2.2⟩
  have := hm.2.1
  unfold smR at this
  rw [Bool.and_eq_true] at this
  exact this
theorem Zms {h : Mh} {ss : List SesD} (hm : smM h ss = true) : okC4 h.w0 h.w1 h.w2 h.w3 = true := by unfold smM at hm; rw [Bool.and_eq_true] at hm; exact hm.1
theorem Ziq {h : Mh} {ss : List SesD} (hm : smM h ss = true) : ownL (macL 1 h ss) = true := by
  obtain ⟨⟨a0, a1, a2, a3⟩, a4, a5⟩ := ZdG hm
  have h6 : Zel (ss.map (sesL 1)) = true := by
    clear hm
    induction ss with
    | nil => rfl
    | cons s l ih => simp only [List.map_cons, Zel, ZfD (a5 s (by simp)), ih fun q hq => a5 q (by simp [hq])]; rfl
  simp only [macL, ownL, D.pureOwn, ZaU (Zac a0).1, ZaU (Zac a1).1, ZaU (Zac a2).1, ZaU (Zac a3).1, ZaU (Zac a4).1, h6, Zel]; rfl
theorem cCop (h : Mh) (ss : List SesD) (hl : ss.length ≤ 4) (hm : smM h ss = true) : CT Tryz.prog 53 [.agg (macL 0 h ss)] (.agg (macL 1 h ss)) := by
  have h4 := Zms hm
  obtain ⟨⟨a0, a1, a2, a3⟩, a4, a5⟩ := ZdG hm
  obtain ⟨_, _, b0⟩ := Zac a0
  obtain ⟨_, _, b1⟩ := Zac a1
  obtain ⟨_, _, b2⟩ := Zac a2
  obtain ⟨_, _, b3⟩ := Zac a3
  obtain ⟨t1, t2, t3⟩ := Zac a4
  rcases ss with _ | ⟨s0, _ | ⟨s1, _ | ⟨s2, _ | ⟨s3, _ | ⟨s4, l⟩⟩⟩⟩⟩
  · refine ct_m (.cons Zjl (.cons ZbW (.cons ZoT .nil))) (.cons oClS .nil) .nil mixed Tryz.func53 rfl rfl rfl ?_
    rw [ZuF]
    refine ⟨?_⟩
    simp only [kX, tC, tD, sTt]
    simp only [h4, b0, b1, b2, b3, t1, t2, t3, List.append_nil, Nat.le_refl, decide_true, Bool.and_self, cond_true, ZbJ, Nat.add_zero, Nat.sub_self, List.take_zero]
    rfl
  · have q0 := a5 s0 (by simp)
    obtain ⟨p0, r0, w0⟩ := ZaI q0
    obtain ⟨_, _, x0⟩ := Zac p0
    obtain ⟨_, _, y0⟩ := Zac r0
    obtain ⟨_, _, z0⟩ := Zac w0
    refine ct_m (.cons Zjl (.cons ZbW (.cons ZoT .nil))) (.cons oClS .nil) .nil mixed Tryz.func53 rfl rfl rfl ?_
    rw [ZuW]
    refine ⟨?_⟩
    simp only [kX, tC, tD, sTt]
    simp only [h4, b0, b1, b2, b3, t1, t2, t3, q0, x0, y0, z0, List.append_nil, Nat.le_refl, decide_true, Bool.and_self, cond_true, ZbJ, Nat.add_zero, Nat.sub_self, List.take_zero]
    rfl
  · have q0 := a5 s0 (by simp)
    obtain ⟨p0, r0, w0⟩ := ZaI q0
    obtain ⟨_, _, x0⟩ := Zac p0
    obtain ⟨_, _, y0⟩ := Zac r0
    obtain ⟨_, _, z0⟩ := Zac w0
    have q1 := a5 s1 (by simp)
    obtain ⟨p1, r1, w1⟩ := ZaI q1
    obtain ⟨_, _, x1⟩ := Zac p1
    obtain ⟨_, _, y1⟩ := Zac r1
    obtain ⟨_, _, z1⟩ := Zac w1
    refine ct_m (.cons Zjl (.cons ZbW (.cons ZoT .nil))) (.cons oClS .nil) .nil mixed Tryz.func53 rfl rfl rfl ?_
    rw [Zwl]
    refine ⟨?_⟩
    simp only [kX, tC, tD, sTt]
    simp only [h4, b0, b1, b2, b3, t1, t2, t3, q0, x0, y0, z0, q1, x1, y1, z1, List.append_nil, Nat.le_refl, decide_true, Bool.and_self, cond_true, ZbJ, Nat.add_zero, Nat.sub_self, List.take_zero]
    rfl
  · have q0 := a5 s0 (by simp)
    obtain ⟨p0, r0, w0⟩ := ZaI q0
    obtain ⟨_, _, x0⟩ := Zac p0
    obtain ⟨_, _, y0⟩ := Zac r0
    obtain ⟨_, _, z0⟩ := Zac w0
    have q1 := a5 s1 (by simp)
    obtain ⟨p1, r1, w1⟩ := ZaI q1
    obtain ⟨_, _, x1⟩ := Zac p1
    obtain ⟨_, _, y1⟩ := Zac r1
    obtain ⟨_, _, z1⟩ := Zac w1
    have q2 := a5 s2 (by simp)
    obtain ⟨p2, r2, w2⟩ := ZaI q2
    obtain ⟨_, _, x2⟩ := Zac p2
    obtain ⟨_, _, y2⟩ := Zac r2
    obtain ⟨_, _, z2⟩ := Zac w2
    refine ct_m (.cons Zjl (.cons ZbW (.cons ZoT .nil))) (.cons oClS .nil) .nil mixed Tryz.func53 rfl rfl rfl ?_
    rw [Zvg]
    refine ⟨?_⟩
    simp only [kX, tC, tD, sTt]
    simp only [h4, b0, b1, b2, b3, t1, t2, t3, q0, x0, y0, z0, q1, x1, y1, z1, q2, x2, y2, z2, List.append_nil, Nat.le_refl, decide_true, Bool.and_self, cond_true, ZbJ, Nat.add_zero, Nat.sub_self, List.take_zero]
    rfl
  · have q0 := a5 s0 (by simp)
    obtain ⟨p0, r0, w0⟩ := ZaI q0
    obtain ⟨_, _, x0⟩ := Zac p0
    obtain ⟨_, _, y0⟩ := Zac r0
    obtain ⟨_, _, z0⟩ := Zac w0
    have q1 := a5 s1 (by simp)
    obtain ⟨p1, r1, w1⟩ := ZaI q1
    obtain ⟨_, _, x1⟩ := Zac p1
    obtain ⟨_, _, y1⟩ := Zac r1
    obtain ⟨_, _, z1⟩ := Zac w1
    have q2 := a5 s2 (by simp)
    obtain ⟨p2, r2, w2⟩ := ZaI q2
    obtain ⟨_, _, x2⟩ := Zac p2
    obtain ⟨_, _, y2⟩ := Zac r2
    obtain ⟨_, _, z2⟩ := Zac w2
    have q3 := a5 s3 (by simp)
    obtain ⟨p3, r3, w3⟩ := ZaI q3
    obtain ⟨_, _, x3⟩ := Zac p3
    obtain ⟨_, _, y3⟩ := Zac r3
    obtain ⟨_, _, z3⟩ := Zac w3
    refine ct_m (.cons Zjl (.cons ZbW (.cons ZoT .nil))) (.cons oClS .nil) .nil mixed Tryz.func53 rfl rfl rfl ?_
    rw [Zwf]
    refine ⟨?_⟩
    simp only [kX, tC, tD, sTt]
    simp only [h4, b0, b1, b2, b3, t1, t2, t3, q0, x0, y0, z0, q1, x1, y1, z1, q2, x2, y2, z2, q3, x3, y3, z3, List.append_nil, Nat.le_refl, decide_true, Bool.and_self, cond_true, ZbJ, Nat.add_zero, Nat.sub_self, List.take_zero]
    rfl
  · simp at hl
def sCop : Spec := fun ds Q => match ds with
  | [d] => macA d fun h ss => cond (Nat.ble ss.length 4 && smM h ss) (Q (.agg (macL 1 h ss))) False
  | _ => False
end

section
open Go Go.Proofs
instance : Inhabited SesD := ⟨⟨0, 0, 0, [], 0, 0, 0, 0, 0, 0, [], [], 0, 0, 0, 0, 0⟩⟩
theorem Zif {l : List (List Int)} (h : pmay l = true) : l.length ≤ 16 := by unfold pmay at h; simp only [Bool.and_eq_true, decide_eq_true_eq] at h; exact h.2
theorem ZqS {l : List (List Int)} (h : rmay l = true) : l.length ≤ 16 := by unfold rmay at h; simp only [Bool.and_eq_true, decide_eq_true_eq] at h; exact h.1
theorem Zpb {l : List (List Int)} (h : Zf6 l = true) : l.length ≤ 16 := by unfold Zf6 at h; simp only [Bool.and_eq_true, decide_eq_true_eq] at h; exact h.1
theorem ZdF {l : List (List Int)} (h : ZaJ l = true) : l.length ≤ 4 := by
  unfold ZaJ at h
  simp only [Bool.not_eq_true', Bool.or_eq_false_iff, decide_eq_false_iff_not] at h
  omega
theorem ZnW {R0 R1 R2 R3 : List (List D)} {s : SesD} (hs : ZaA s = true) (h : Zal R0 R1 R2 R3 s = true) : smS s = true := by
  unfold Zal Znn smay at h
  simp only [Bool.and_eq_true] at h
  unfold ZaA at hs
  simp only [Bool.and_eq_true] at hs
  have a1 := Zif h.1.2.2.2.2
  have a2 := ZqS h.2.1.1
  have a3 := Zpb h.2.1.2.1
  rw [Zak] at a1 a2 a3
  unfold smS
  rw [ZcA hs.1 a1 (by omega), ZcA hs.2.1 a2 (by omega), ZcA hs.2.2 a3 (by omega)]; rfl
theorem Zow {h : Mh} {ss : List SesD} (ho : okM h ss = true) (hm : mmay h ss = true) : smM h ss = true := by
  obtain ⟨h1, h2, h3⟩ := ZbH ho
  obtain ⟨_, g5⟩ := ZfG hm
  unfold mmay amay at hm
  simp only [Bool.and_eq_true, Bool.not_eq_true', decide_eq_false_iff_not] at hm
  obtain ⟨⟨a0, a1, a2, a3⟩, _, _, _, htr, _⟩ := hm
  unfold okA at h1
  simp only [Bool.and_eq_true] at h1
  have l0 := ZdF a0
  have l1 := ZdF a1
  have l2 := ZdF a2
  have l3 := ZdF a3
  rw [Zak] at l0 l1 l2 l3
  have e0 : okC h.w0 = true := ZcA (n := 5864062014635) h1.1 l0 (by omega)
  have e1 : okC h.w1 = true := ZcA (n := 5864062014635) h1.2.1 l1 (by omega)
  have e2 : okC h.w2 = true := ZcA (n := 5864062014635) h1.2.2.1 l2 (by omega)
  have e3 : okC h.w3 = true := ZcA (n := 5864062014635) h1.2.2.2 l3 (by omega)
  unfold smM okC4
  rw [e0, e1, e2, e3, ZcA (n := 4398046510977) (m := 512) h2 (by omega) (by omega)]
  simp only [Bool.and_self, Bool.true_and, List.all_eq_true]
  intro s hs
  exact ZnW (List.all_eq_true.1 h3 s hs) (g5 s hs)
abbrev macE (e : Int) : DV := .tup [.agg (macL 1 h0 []), I e]
abbrev macR (h : Mh) (ss : List SesD) (e : Int) : DV := .tup [.agg (macL 1 h ss), I e]
theorem Zqb {h : Mh} {ss : List SesD} (hm : smM h ss = true) : ((h.w0.all fun r => r.all D.keeps) = true ∧ (h.w1.all fun r => r.all D.keeps) = true ∧ (h.w2.all fun r => r.all D.keeps) = true ∧ (h.w3.all fun r => r.all D.keeps) = true) ∧ (h.tr.all fun r => r.all D.keeps) = true ∧ ∀ s ∈ ss, (s.pg.all fun r => r.all D.keeps) = true ∧ (s.rd.all fun r => r.all D.keeps) = true ∧ (s.wt.all fun r => r.all D.keeps) = true := by
  obtain ⟨⟨a0, a1, a2, a3⟩, a4, a5⟩ := ZdG hm
  exact ⟨⟨(Zac a0).2.2, (Zac a1).2.2, (Zac a2).2.2, (Zac a3).2.2⟩, (Zac a4).2.2, fun s hs => by
    obtain ⟨p, r, w⟩ := ZaI (a5 s hs)
    exact ⟨(Zac p).2.2, (Zac r).2.2, (Zac w).2.2⟩⟩
structure Foc (h : Mh) (ss : List SesD) (i : Int) (s : SesD) : Prop where
  at' : ss[i.toNat]? = some s
  ok : ZaA s = true
  may : Zal h.w0 h.w1 h.w2 h.w3 s = true
  lt : i.toNat < ss.length
  i0 : 0 ≤ i
  i1 : i < ss.length
  sm : smM h ss = true
  len : ss.length ≤ 4
  mm : mmay h ss = true
  w0 : allK h.w0 = true
  w1 : allK h.w1 = true
  w2 : allK h.w2 = true
  w3 : allK h.w3 = true
  tr : allK h.tr = true
  tl : h.tr.length ≤ 512
theorem foc {h : Mh} {ss : List SesD} {i : Int} (hok : okM h ss = true) (hm : Zcc h ss i = true) : ∃ s, Foc h ss i s := by
  obtain ⟨s, h1, h2, h3⟩ := Zi8 hok hm
  obtain ⟨g0, g1, g2⟩ := Zc1 hm
  have hsm := Zow hok g0
  obtain ⟨⟨b0, b1, b2, b3⟩, t3, _⟩ := Zqb hsm
  refine ⟨s, h1, h2, h3, by omega, g1, g2, hsm, (ZfG g0).1, g0, b0, b1, b2, b3, t3, ?_⟩
  unfold mmay at g0
  simp only [Bool.and_eq_true, Bool.not_eq_true', decide_eq_false_iff_not] at g0
  omega
theorem Foc.getD {h : Mh} {ss : List SesD} {i : Int} {s : SesD} (f : Foc h ss i s) : ss.getD i.toNat default = s := by
  rw [List.getD_eq_getElem?_getD, f.at']; rfl
theorem Foc.foAt {h : Mh} {ss : List SesD} {i : Int} {s : SesD} (f : Foc h ss i s) : Vm.foAt (addN 0 i.toNat) i.toNat (List.length (List.map (sesL 1) ss)) := ZpE.2 ⟨rfl, by rw [List.length_map]; exact f.lt⟩
theorem Foc.ix {h : Mh} {ss : List SesD} {i : Int} {s : SesD} (f : Foc h ss i s) : (decide (0 ≤ i) && decide (i < @Nat.cast Int _ (List.length (List.map (sesL 1) ss)))) = true := by
  rw [List.length_map, decide_eq_true f.i0, decide_eq_true f.i1]; rfl
theorem Foc.row {h : Mh} {ss : List SesD} {i : Int} {s : SesD} (f : Foc h ss i s) : Zdu (List.map (sesL 1) ss) (Int.toNat i) 1 s := ZeD f.at'
theorem Foc.ow0 {h : Mh} {ss : List SesD} {i : Int} {s : SesD} (f : Foc h ss i s) : whole h.w0.length h.w0 := ZaW f.w0
theorem Foc.ow1 {h : Mh} {ss : List SesD} {i : Int} {s : SesD} (f : Foc h ss i s) : whole h.w1.length h.w1 := ZaW f.w1
theorem Foc.ow2 {h : Mh} {ss : List SesD} {i : Int} {s : SesD} (f : Foc h ss i s) : whole h.w2.length h.w2 := ZaW f.w2
theorem Foc.ow3 {h : Mh} {ss : List SesD} {i : Int} {s : SesD} (f : Foc h ss i s) : whole h.w3.length h.w3 := ZaW f.w3
theorem Foc.otr {h : Mh} {ss : List SesD} {i : Int} {s : SesD} (f : Foc h ss i s) : whole h.tr.length h.tr := ZaW f.tr
theorem Foc.oss {h : Mh} {ss : List SesD} {i : Int} {s : SesD} (f : Foc h ss i s) (j : Nat) (s' : SesD) : whole (List.length (List.map (sesL 1) ss)) (List.set (List.map (sesL 1) ss) j (sesL 1 s')) := Zoa (List.length_map _)
theorem Zoo (h : Mh) (ss : List SesD) (j : Nat) (s : SesD) (e : Int) : AL (.tup [.agg (Zbu 1 h (List.set (List.map (sesL 1) ss) j (sesL 1 s))), I e]) (macR h (ss.set j s) e) := by
  rw [Zoh, Zqx]; exact AL.refl _
theorem Zqh (e : Int) : AL (.tup [.agg mac0, I e]) (macE e) := Zut e
theorem gCop : Goes Tryz.prog 53 := Zao Tryz.func53 (by kernel_rfl) rfl
theorem gAt : Goes Tryz.prog 80 := Zao Tryz.func80 (by kernel_rfl) rfl
def iCpF (t : Bool) (h : Mh) (ss : List SesD) (i : Int) (s : SesD) : Inl := ZqD Tryz.prog [34] (sIf t (sAtD [.agg (macL 0 h ss)] (.agg (macL 1 h ss)))) (matF i.toNat s)
theorem ZlI {h : Mh} {ss : List SesD} (hm : smM h ss = true) : (DV.agg (macL 1 h ss)).pureOwn = true := Ziq hm
theorem Zsx {t : Bool} {h : Mh} {ss : List SesD} (i : Int) (s : SesD) (hl : t = true → smM h ss = true ∧ ss.length ≤ 4) : Zbi Tryz.prog 53 (iCpF t h ss i s) :=
  Zii (Zod _ _) (oIf fun ht => oAtD gCop (cCop h ss (hl ht).2 (hl ht).1) (ZlI (hl ht).1) rfl)
theorem ZjI {h : Mh} {ss : List SesD} (i : Int) (hok : okM h ss = true) : Zcc h ss i = true → smM h ss = true ∧ ss.length ≤ 4 := fun hm => by
  obtain ⟨g0, _, _⟩ := Zc1 hm
  exact ⟨Zow hok g0, (ZfG g0).1⟩
theorem Zia {h : Mh} {ss : List SesD} (hm : smM h ss = true) (e : Int) : (macR h ss e).pureOwn = true := by
  have := Ziq hm
  simp only [macR, DV.pureOwn, DV.pureOwn.go, this]
  rfl
end

section
open Go Go.Proofs
def wdsB (R0 R1 R2 R3 : List (List D)) (s : SesD) : Bool := !(toZ s.pg).any (noIn R0 R1 R2 R3) && (!(toZ s.wt).any (noWr R0 R1 R2 R3) && !(toZ s.rd).any (noRd R0 R1 R2 R3))
theorem Zql (a b c d : List (List Int)) (l : List (List Int)) : l.all (thv a b c d) = !l.any (noRd (mZ a) (mZ b) (mZ c) (mZ d)) := by
  rw [List.all_eq_not_any_not]
  congr 2
  funext r
  unfold thv noRd thW
  rw [Zah, Zah, Zah, Zah]
theorem cWds (R0 R1 R2 R3 : List (List D)) (s : SesD) (hA : okA R0 R1 R2 R3 = true) (hs : ZaA s = true) : CT Tryz.prog 120 [.agg (wsL R0 R1 R2 R3), .agg (sesL 0 s)] (B (wdsB R0 R1 R2 R3 s)) := by
  obtain ⟨q0, q1, q2, q3⟩ := ZbV hA
  obtain ⟨a1, a2, _⟩ := Zag q0
  obtain ⟨b1, b2, _⟩ := Zag q1
  obtain ⟨c1, c2, _⟩ := Zag q2
  obtain ⟨d1, d2, _⟩ := Zag q3
  obtain ⟨e, ⟨hp, hpl⟩, ⟨hr, hrl⟩, ⟨hw, hwl⟩⟩ := ZmS hs
  have hz : okZ 3 s.rd = true := by unfold ZaA at hs; simp only [Bool.and_eq_true] at hs; exact hs.2.1
  rw [a1, b1, c1, d1] at hA ⊢
  have hz2 : okZ 3 (mZ (toZ s.rd)) = true := by rw [← (Zag hz).1]; exact hz
  rw [e]
  generalize toZ R0 = a at *
  generalize toZ R1 = b at *
  generalize toZ R2 = c at *
  generalize toZ R3 = d at *
  generalize toZ s.pg = p at *
  generalize toZ s.rd = r at *
  generalize toZ s.wt = w at *
  refine Zjc (m := [(2, fWd1 a b c d s p r w), (8, fWd2 a b c d s p r w)]) (.cons Zi9 (.cons oRT .nil)) mixed (Zso rfl (by kernel_rfl) (by kernel_rfl) rfl (kWd1 hp hpl) (kWd2 hw hwl)) Tryz.func120 rfl rfl rfl ?_
  rw [eWds]
  unfold wdsB SesD.on
  simp only [Zfg]
  refine ⟨⟨trivial, fun i hi => ?_, fun hn => ⟨trivial, fun i hi => ?_, fun hn2 => ?_⟩⟩⟩
  · rw [hi.any]; rfl
  · rw [hn.any, hi.any]; rfl
  · rw [hn.any, hn2.any, hA, hz2, Zql]; rfl
def sWds : Spec := fun ds Q => match ds with
  | [.agg cs, e] => cond (ZkR cs && Nat.beq cs.length 4) (Zg8 cs fun R0 R1 R2 R3 => sesA e fun s => cond (okA R0 R1 R2 R3 && ZaA s) (Q (B (wdsB R0 R1 R2 R3 s))) False) False
  | _ => False
theorem oWds : Zad Tryz.prog 120 sWds := o_al Tryz.func120 (by kernel_rfl) rfl fun ds Q h => by
  unfold sWds at h; split at h
  · obtain ⟨h0, h⟩ := Zaf h
    rw [Bool.and_eq_true] at h0
    have hl := Zab h0.2
    obtain ⟨R0, R1, R2, R3, h, r1⟩ := ZcV h
    obtain ⟨s, h, r2⟩ := ZbK h
    obtain ⟨h1, h2⟩ := Zaf h
    rw [Bool.and_eq_true] at h1
    rw [List.take_of_length_le (Nat.le_of_eq hl)] at r1
    exact ⟨_, _, .cons (.agg r1 h0.1 rfl) (.cons r2 .nil), cWds R0 R1 R2 R3 s h1.1 h1.2, rfl, rfl, h2⟩
  · exact h.elim
theorem eUp2 (x l m : Int) (K : DV → Prop) : (ask Tryz.prog [] Tryz.f56 [I x, I l, I m] K) = (bif decide (x ≥ l) then K (DV.c (D.v (Value.bool (decide (x ≤ m))))) else K (DV.c (D.v (Value.bool false)))) := by kernel_rfl
theorem oUp2 : Zad Tryz.prog 56 sUp := o_of Tryz.func56 (by kernel_rfl) rfl fun ds Q h => by
  unfold sUp at h; split at h
  · refine ⟨_, Zaj .nil mixed Tryz.func56 rfl rfl rfl ?_, rfl, rfl, h⟩
    rw [eUp2]; rename_i x l m; unfold upto; cases decide (x ≥ l) <;> rfl
  · exact h.elim
theorem Zvn (h : Mh) (ss : List SesD) (s : SesD) (K : DV → Prop) : (ask Tryz.prog [(92, Zkp), (120, sWds), (56, sUp), (121, ZgV), (122, sRM), (123, sWMy), (69, sB clk), (91, sB val8)] Tryz.f70 [.agg (macL 0 h ss), .agg (sesL 0 s)] K) = (bif okZ (4) s.pg then bif !smay s.id s.lb s.cl (toZ s.pg) then K (DV.c (D.v (Value.bool false))) else bif okA h.w0 h.w1 h.w2 h.w3 && ZaA s then bif !wdsB h.w0 h.w1 h.w2 h.w3 s then K (DV.c (D.v (Value.bool false))) else bif !upto s.st (0) (6) then K (DV.c (D.v (Value.bool false))) else bif !upto s.pc (0) (@Nat.cast Int _ (List.length s.pg)) then K (DV.c (D.v (Value.bool false))) else bif !v4 s.r0 s.r1 s.r2 s.r3 then K (DV.c (D.v (Value.bool false))) else bif okZ (3) s.rd then bif !rmay (toZ s.rd) then K (DV.c (D.v (Value.bool false))) else bif okZ (3) s.wt then bif !Zf6 (toZ s.wt) then K (DV.c (D.v (Value.bool false))) else bif upto s.at' (0) (@Nat.cast Int _ (List.length s.wt)) then bif clk s.sp then bif clk s.tr then bif upto s.rs (0) (5) then K (DV.c (D.v (Value.bool (val8 s.to)))) else K (DV.c (D.v (Value.bool false))) else K (DV.c (D.v (Value.bool false))) else K (DV.c (D.v (Value.bool false))) else K (DV.c (D.v (Value.bool false))) else False else False else False else False) := by kernel_rfl
theorem ZuQ (h : Mh) (ss : List SesD) (s : SesD) (hA : okA h.w0 h.w1 h.w2 h.w3 = true) (hs : ZaA s = true) : CT Tryz.prog 70 [.agg (macL 0 h ss), .agg (sesL 0 s)] (B (Zal h.w0 h.w1 h.w2 h.w3 s)) := by
  refine ct_s (.cons ZnC (.cons oWds (.cons oUp2 (.cons ZnR (.cons oQM (.cons oWPy (.cons ZgT (.cons ZeT .nil)))))))) mixed Tryz.func70 rfl rfl rfl ?_
  rw [Zvn]
  refine ⟨?_⟩
  have hz := hs
  unfold ZaA at hz
  simp only [Bool.and_eq_true] at hz
  simp only [hz.1, hz.2.1, hz.2.2, hA, hs, Bool.and_self, cond_true, bifN, bifK]
  unfold Zal Znn farB Zo0 wdsB
  congr 3
  ac_rfl
def ZiI : Spec := fun ds Q => match ds with
  | [d, e] => macA d fun h _ => sesA e fun s => cond (okA h.w0 h.w1 h.w2 h.w3 && ZaA s) (Q (B (Zal h.w0 h.w1 h.w2 h.w3 s))) False
  | _ => False
theorem ZnD : Zad Tryz.prog 70 ZiI := o_al Tryz.func70 (by kernel_rfl) rfl fun ds Q hq => by
  unfold ZiI at hq; split at hq
  · obtain ⟨h, ss, hq, r1⟩ := ZcI hq
    obtain ⟨s, hq, r⟩ := ZbK hq
    obtain ⟨h1, h2⟩ := Zaf hq
    rw [Bool.and_eq_true] at h1
    exact ⟨_, _, .cons r1 (.cons r .nil), ZuQ h ss s h1.1 h1.2, rfl, rfl, h2⟩
  · exact hq.elim
def stTr (h : Mh) (ss : List SesD) (v : Bool) (i : Int) : X := ⟨mkT 90 [(1, .c (.rp 2 0 11 0 0)), (2, ab v), (5, ai i)], [(2, .bx 0 11 ((macL 0 h ss).map C.d))], [], []⟩
def Zhm (h : Mh) (ss : List SesD) : Vw := fun y K => wB y 2 fun v => wI y 5 fun i => K (stTr h ss v i)
theorem ZiW (h : Mh) (ss : List SesD) : VwOK (Zhm h ss) := fun y K h => by
  unfold Zhm at h
  obtain ⟨v, h⟩ := Zdr h
  obtain ⟨i, h⟩ := Zcw h
  exact ⟨_, h⟩
theorem rTr (h : Mh) (ss : List SesD) (v : Bool) (i : Int) (N : X → Prop) (E : Exit → X → Prop) : (ZcK Tryz.prog (hkA band bor [(71, sB lab)] []) Tryz.f27 2 [] [1, 2, 5] [2] (Zhm h ss) (fun _ => Zhm h ss) N E (stTr h ss v i)) = (bif decide (i < @Nat.cast Int _ (List.length h.tr)) then bif decide (0 ≤ i) && decide (i < @Nat.cast Int _ (List.length h.tr)) then bif isJ [IntKind.i64] (List.drop (1) (List.getD h.tr (Int.toNat i) [])) then bif !lab (hdJ (List.drop (1) (List.getD h.tr (Int.toNat i) []))) then stTr h ss false i = stTr h ss false i ∧ E Exit.ret (stTr h ss false i) else stTr h ss v (IntKind.wrap IntKind.i64 (i + 1)) = stTr h ss v (IntKind.wrap IntKind.i64 (i + 1)) ∧ N (stTr h ss v (IntKind.wrap IntKind.i64 (i + 1))) else False else False else stTr h ss v i = stTr h ss v i ∧ E (Exit.exit (4)) (stTr h ss v i)) := by kernel_rfl
def Mh.on (h : Mh) (t : List (List Int)) : Mh := { h with tr := mZ t }
def fTr (h : Mh) (ss : List SesD) (t : List (List Int)) : LSum := Zdf [1, 2, 5] [2] (fun i => stTr (h.on t) ss false i) (fun i => stTr (h.on t) ss false i) t.length (fun i => noEv (t.getD i [])) .ret (.exit 4)
theorem kTr {h : Mh} {ss : List SesD} {t : List (List Int)} (hw : wid 4 t) (hn : t.length ≤ 9223372036854775807) (Q : Exit → X → Prop) (x : X) (hq : fTr h ss t Q x) : XWP Tryz.prog (.loop (Zaq Tryz.f27 2)) Q x := by
  refine Zcb (sw := []) (V := Zhm (h.on t) ss) (VE := fun _ => Zhm (h.on t) ss) mixed (ZiW (h.on t) ss) (fun _ => ZiW (h.on t) ss) _ _ _ _ _ _ (fun i hl => ⟨hkA band bor [(71, sB lab)] [], ZaK (.cons ZmJ .nil), Zai rfl, fun N E h1 h2 => ?_⟩) ⟨hkA band bor [(71, sB lab)] [], ZaK (.cons ZmJ .nil), Zai rfl, fun N E h1 => ?_⟩ Q x hq
  · rw [rTr]
    have wi : IntKind.wrap .i64 ((i : Int) + 1) = ((i + 1 : Nat) : Int) := Zam (n := 1) (by omega)
    have a1 : isJ [IntKind.i64] (List.drop 1 ((mZ t).getD i [])) = true := Zas (j := 1) (n := 1) hw hl (by omega)
    simp only [Mh.on, Zah, Int.ofNat_lt, hl, decide_true, cond_true, Int.natCast_nonneg, Bool.and_self, Int.toNat_natCast, a1, ZbL, true_and, wi] at h1 h2 ⊢
    unfold noEv at h1 h2
    generalize lab ((t.getD i []).getD 1 0) = u at h1 h2 ⊢
    cases u <;> simp only [cond_true, cond_false, Bool.not_true, Bool.not_false, forall_const, reduceCtorEq, false_implies] at h1 h2 ⊢ <;> first | exact h1 | exact h2 | exact h1 trivial | exact h2 trivial
  · rw [rTr]
    simp only [Mh.on, Zah, Int.ofNat_lt, Nat.lt_irrefl, decide_false, cond_false, true_and]
    exact h1
theorem ZvC (h : Mh) (t : List (List Int)) (K : DV → Prop) : (askL Tryz.prog [(68, ZcG), (69, sB clk), (56, sUp), (70, ZiI)] [(14, fTr h [] t)] Tryz.f27 [.agg (macL 0 (h.on t) [])] K) = (bif okA h.w0 h.w1 h.w2 h.w3 then bif !amay (toZ h.w0) (toZ h.w1) (toZ h.w2) (toZ h.w3) then K (DV.c (D.v (Value.bool false))) else bif !clk h.ce then K (DV.c (D.v (Value.bool false))) else bif decide (@Nat.cast Int _ (List.length (mZ t)) > 512) then K (DV.c (D.v (Value.bool false))) else bif !upto h.c0 (0) h.ce then K (DV.c (D.v (Value.bool false))) else bif !upto h.c1 (0) h.ce then K (DV.c (D.v (Value.bool false))) else bif !upto h.c2 (0) h.ce then K (DV.c (D.v (Value.bool false))) else bif !upto h.c3 (0) h.ce then K (DV.c (D.v (Value.bool false))) else stTr { w0 := h.w0, w1 := h.w1, w2 := h.w2, w3 := h.w3, c0 := h.c0, c1 := h.c1, c2 := h.c2, c3 := h.c3, ce := h.ce, tr := mZ t } [] false (0) = stTr { w0 := h.w0, w1 := h.w1, w2 := h.w2, w3 := h.w3, c0 := h.c0, c1 := h.c1, c2 := h.c2, c3 := h.c3, ce := h.ce, tr := mZ t } [] false (0) ∧ (∀ (i : Nat), firstAt (fun i => noEv (List.getD t i [])) (List.length t) i → K (DV.c (D.v (Value.bool false)))) ∧ (noneTo (fun i => noEv (List.getD t i [])) (List.length t) → K (DV.c (D.v (Value.bool true)))) else False) := by kernel_rfl
theorem Zu9 (h : Mh) (s0 : SesD) (t : List (List Int)) (K : DV → Prop) : (askL Tryz.prog [(68, ZcG), (69, sB clk), (56, sUp), (70, ZiI)] [(14, fTr h [s0] t)] Tryz.f27 [.agg (macL 0 (h.on t) [s0])] K) = (bif okA h.w0 h.w1 h.w2 h.w3 then bif !amay (toZ h.w0) (toZ h.w1) (toZ h.w2) (toZ h.w3) then K (DV.c (D.v (Value.bool false))) else bif !clk h.ce then K (DV.c (D.v (Value.bool false))) else bif decide (@Nat.cast Int _ (List.length (mZ t)) > 512) then K (DV.c (D.v (Value.bool false))) else bif !upto h.c0 (0) h.ce then K (DV.c (D.v (Value.bool false))) else bif !upto h.c1 (0) h.ce then K (DV.c (D.v (Value.bool false))) else bif !upto h.c2 (0) h.ce then K (DV.c (D.v (Value.bool false))) else bif !upto h.c3 (0) h.ce then K (DV.c (D.v (Value.bool false))) else bif okA h.w0 h.w1 h.w2 h.w3 && ZaA s0 then bif !Zal h.w0 h.w1 h.w2 h.w3 s0 then K (DV.c (D.v (Value.bool false))) else stTr { w0 := h.w0, w1 := h.w1, w2 := h.w2, w3 := h.w3, c0 := h.c0, c1 := h.c1, c2 := h.c2, c3 := h.c3, ce := h.ce, tr := mZ t } [s0] false (0) = stTr { w0 := h.w0, w1 := h.w1, w2 := h.w2, w3 := h.w3, c0 := h.c0, c1 := h.c1, c2 := h.c2, c3 := h.c3, ce := h.ce, tr := mZ t } [s0] false (0) ∧ (∀ (i : Nat), firstAt (fun i => noEv (List.getD t i [])) (List.length t) i → K (DV.c (D.v (Value.bool false)))) ∧ (noneTo (fun i => noEv (List.getD t i [])) (List.length t) → K (DV.c (D.v (Value.bool true)))) else False else False) := by kernel_rfl
theorem Zvj (h : Mh) (s0 s1 : SesD) (t : List (List Int)) (K : DV → Prop) : (askL Tryz.prog [(68, ZcG), (69, sB clk), (56, sUp), (70, ZiI)] [(14, fTr h [s0, s1] t)] Tryz.f27 [.agg (macL 0 (h.on t) [s0, s1])] K) = (bif okA h.w0 h.w1 h.w2 h.w3 then bif !amay (toZ h.w0) (toZ h.w1) (toZ h.w2) (toZ h.w3) then K (DV.c (D.v (Value.bool false))) else bif !clk h.ce then K (DV.c (D.v (Value.bool false))) else bif decide (@Nat.cast Int _ (List.length (mZ t)) > 512) then K (DV.c (D.v (Value.bool false))) else bif !upto h.c0 (0) h.ce then K (DV.c (D.v (Value.bool false))) else bif !upto h.c1 (0) h.ce then K (DV.c (D.v (Value.bool false))) else bif !upto h.c2 (0) h.ce then K (DV.c (D.v (Value.bool false))) else bif !upto h.c3 (0) h.ce then K (DV.c (D.v (Value.bool false))) else bif okA h.w0 h.w1 h.w2 h.w3 && ZaA s0 then bif !Zal h.w0 h.w1 h.w2 h.w3 s0 then K (DV.c (D.v (Value.bool false))) else bif okA h.w0 h.w1 h.w2 h.w3 && ZaA s1 then bif !Zal h.w0 h.w1 h.w2 h.w3 s1 then K (DV.c (D.v (Value.bool false))) else bif decide (s1.id ≤ s0.id) then K (DV.c (D.v (Value.bool false))) else stTr { w0 := h.w0, w1 := h.w1, w2 := h.w2, w3 := h.w3, c0 := h.c0, c1 := h.c1, c2 := h.c2, c3 := h.c3, ce := h.ce, tr := mZ t } [s0, s1] false (0) = stTr { w0 := h.w0, w1 := h.w1, w2 := h.w2, w3 := h.w3, c0 := h.c0, c1 := h.c1, c2 := h.c2, c3 := h.c3, ce := h.ce, tr := mZ t } [s0, s1] false (0) ∧ (∀ (i : Nat), firstAt (fun i => noEv (List.getD t i [])) (List.length t) i → K (DV.c (D.v (Value.bool false)))) ∧ (noneTo (fun i => noEv (List.getD t i [])) (List.length t) → K (DV.c (D.v (Value.bool true)))) else False else False else False) := by kernel_rfl
theorem ZvU (h : Mh) (s0 s1 s2 : SesD) (t : List (List Int)) (K : DV → Prop) : (askL Tryz.prog [(68, ZcG), (69, sB clk), (56, sUp), (70, ZiI)] [(14, fTr h [s0, s1, s2] t)] Tryz.f27 [.agg (macL 0 (h.on t) [s0, s1, s2])] K) = (bif okA h.w0 h.w1 h.w2 h.w3 then bif !amay (toZ h.w0) (toZ h.w1) (toZ h.w2) (toZ h.w3) then K (DV.c (D.v (Value.bool false))) else bif !clk h.ce then K (DV.c (D.v (Value.bool false))) else bif decide (@Nat.cast Int _ (List.length (mZ t)) > 512) then K (DV.c (D.v (Value.bool false))) else bif !upto h.c0 (0) h.ce then K (DV.c (D.v (Value.bool false))) else bif !upto h.c1 (0) h.ce then K (DV.c (D.v (Value.bool false))) else bif !upto h.c2 (0) h.ce then K (DV.c (D.v (Value.bool false))) else bif !upto h.c3 (0) h.ce then K (DV.c (D.v (Value.bool false))) else bif okA h.w0 h.w1 h.w2 h.w3 && ZaA s0 then bif !Zal h.w0 h.w1 h.w2 h.w3 s0 then K (DV.c (D.v (Value.bool false))) else bif okA h.w0 h.w1 h.w2 h.w3 && ZaA s1 then bif !Zal h.w0 h.w1 h.w2 h.w3 s1 then K (DV.c (D.v (Value.bool false))) else bif decide (s1.id ≤ s0.id) then K (DV.c (D.v (Value.bool false))) else bif okA h.w0 h.w1 h.w2 h.w3 && ZaA s2 then bif !Zal h.w0 h.w1 h.w2 h.w3 s2 then K (DV.c (D.v (Value.bool false))) else bif decide (s2.id ≤ s1.id) then K (DV.c (D.v (Value.bool false))) else stTr { w0 := h.w0, w1 := h.w1, w2 := h.w2, w3 := h.w3, c0 := h.c0, c1 := h.c1, c2 := h.c2, c3 := h.c3, ce := h.ce, tr := mZ t } [s0, s1, s2] false (0) = stTr { w0 := h.w0, w1 := h.w1, w2 := h.w2, w3 := h.w3, c0 := h.c0, c1 := h.c1, c2 := h.c2, c3 := h.c3, ce := h.ce, tr := mZ t } [s0, s1, s2] false (0) ∧ (∀ (i : Nat), firstAt (fun i => noEv (List.getD t i [])) (List.length t) i → K (DV.c (D.v (Value.bool false)))) ∧ (noneTo (fun i => noEv (List.getD t i [])) (List.length t) → K (DV.c (D.v (Value.bool true)))) else False else False else False else False) := by kernel_rfl
theorem ZuD (h : Mh) (s0 s1 s2 s3 : SesD) (t : List (List Int)) (K : DV → Prop) : (askL Tryz.prog [(68, ZcG), (69, sB clk), (56, sUp), (70, ZiI)] [(14, fTr h [s0, s1, s2, s3] t)] Tryz.f27 [.agg (macL 0 (h.on t) [s0, s1, s2, s3])] K) = (bif okA h.w0 h.w1 h.w2 h.w3 then bif !amay (toZ h.w0) (toZ h.w1) (toZ h.w2) (toZ h.w3) then K (DV.c (D.v (Value.bool false))) else bif !clk h.ce then K (DV.c (D.v (Value.bool false))) else bif decide (@Nat.cast Int _ (List.length (mZ t)) > 512) then K (DV.c (D.v (Value.bool false))) else bif !upto h.c0 (0) h.ce then K (DV.c (D.v (Value.bool false))) else bif !upto h.c1 (0) h.ce then K (DV.c (D.v (Value.bool false))) else bif !upto h.c2 (0) h.ce then K (DV.c (D.v (Value.bool false))) else bif !upto h.c3 (0) h.ce then K (DV.c (D.v (Value.bool false))) else bif okA h.w0 h.w1 h.w2 h.w3 && ZaA s0 then bif !Zal h.w0 h.w1 h.w2 h.w3 s0 then K (DV.c (D.v (Value.bool false))) else bif okA h.w0 h.w1 h.w2 h.w3 && ZaA s1 then bif !Zal h.w0 h.w1 h.w2 h.w3 s1 then K (DV.c (D.v (Value.bool false))) else bif decide (s1.id ≤ s0.id) then K (DV.c (D.v (Value.bool false))) else bif okA h.w0 h.w1 h.w2 h.w3 && ZaA s2 then bif !Zal h.w0 h.w1 h.w2 h.w3 s2 then K (DV.c (D.v (Value.bool false))) else bif decide (s2.id ≤ s1.id) then K (DV.c (D.v (Value.bool false))) else bif okA h.w0 h.w1 h.w2 h.w3 && ZaA s3 then bif !Zal h.w0 h.w1 h.w2 h.w3 s3 then K (DV.c (D.v (Value.bool false))) else bif decide (s3.id ≤ s2.id) then K (DV.c (D.v (Value.bool false))) else stTr { w0 := h.w0, w1 := h.w1, w2 := h.w2, w3 := h.w3, c0 := h.c0, c1 := h.c1, c2 := h.c2, c3 := h.c3, ce := h.ce, tr := mZ t } [s0, s1, s2, s3] false (0) = stTr { w0 := h.w0, w1 := h.w1, w2 := h.w2, w3 := h.w3, c0 := h.c0, c1 := h.c1, c2 := h.c2, c3 := h.c3, ce := h.ce, tr := mZ t } [s0, s1, s2, s3] false (0) ∧ (∀ (i : Nat), firstAt (fun i => noEv (List.getD t i [])) (List.length t) i → K (DV.c (D.v (Value.bool false)))) ∧ (noneTo (fun i => noEv (List.getD t i [])) (List.length t) → K (DV.c (D.v (Value.bool true)))) else False else False else False else False else False) := by kernel_rfl
theorem Zvv (h : Mh) (ss : List SesD) (K : DV → Prop) : (askL Tryz.prog [(68, ZcG), (69, sB clk), (56, sUp)] [(4, fun _ _ => False)] Tryz.f27 [.agg (macL 0 h ss)] K) = (bif okA h.w0 h.w1 h.w2 h.w3 then bif !amay (toZ h.w0) (toZ h.w1) (toZ h.w2) (toZ h.w3) then K (DV.c (D.v (Value.bool false))) else bif !clk h.ce then K (DV.c (D.v (Value.bool false))) else bif decide (@Nat.cast Int _ (List.length (List.map (sesL (0)) ss)) > 4) then K (DV.c (D.v (Value.bool false))) else bif decide (@Nat.cast Int _ (List.length h.tr) > 512) then K (DV.c (D.v (Value.bool false))) else False else False) := by kernel_rfl
end

section
open Go Go.Proofs
theorem Zro (a b e : Int) : decide (mx a b > e) = (decide (a > e) || decide (b > e)) := by
  rw [Bool.eq_iff_iff]
  simp only [Bool.or_eq_true, decide_eq_true_eq]
  unfold mx
  split <;> omega
theorem Zpv (c0 c1 c2 c3 e : Int) : ((ck4 c0 c1 c2 c3 && clk e) && !decide (mx4 c0 c1 c2 c3 > e)) = (clk e && (upto c0 0 e && (upto c1 0 e && (upto c2 0 e && upto c3 0 e)))) := by
  unfold mx4
  rw [Zro, Zro, Zro, Bool.eq_iff_iff]
  unfold ck4 clk upto
  simp only [Bool.and_eq_true, Bool.not_eq_true', Bool.or_eq_false_iff, decide_eq_true_eq, decide_eq_false_iff_not]
  omega
theorem Zke (a b : Int) : (!decide (a ≥ b)) = !decide (b ≤ a) := rfl
theorem bN {p : Bool} {R : Prop} {q : Bool} (h : p = true → R) (h2 : p = false → q = false) : bif !p then (DV.c (.v (.bool false)) = B q) else R := by
  cases p
  · rw [h2 rfl]; rfl
  · exact h rfl
theorem bP {p : Bool} {R : Prop} {q : Bool} (h : p = false → R) (h2 : p = true → q = false) : bif p then (DV.c (.v (.bool false)) = B q) else R := by
  cases p
  · exact h rfl
  · rw [h2 rfl]; rfl
theorem bO {p : Bool} {R : Prop} (hp : p = true) (h : R) : bif p then R else False := by rw [hp]; exact h
theorem bT {T : Prop} {t : List (List Int)} {q : Bool} (hT : T) (h1 : t.any noEv = true → q = false) (h2 : t.any noEv = false → q = true) : T ∧ (∀ i : Nat, firstAt (fun i => noEv (List.getD t i [])) (List.length t) i → (DV.c (.v (.bool false)) = B q)) ∧ (noneTo (fun i => noEv (List.getD t i [])) (List.length t) → (DV.c (.v (.bool true)) = B q)) :=
  ⟨hT, fun i hi => by rw [h1 hi.any], fun hn => by rw [h2 hn.any]⟩
theorem Ztn {P : Program} {l : List (FuncId × Spec)} {fn : Func} {k1 k2 k3 : Nat} {s3 : LSum} (hn : (Za9 (Zar fn)).length = 3) (e1 : ZbC (Zaq fn 0) = k1) (e2 : ZbC (Zaq fn 1) = k2) (e3 : ZbC (Zaq fn 2) = k3) (n1 : Nat.beq k3 k1 = false) (n2 : Nat.beq k3 k2 = false) (h3 : ∀ Q x, s3 Q x → XWP P (.loop (Zaq fn 2)) Q x) : ZaE P (hkl l [(k3, s3)]) (Zar fn) :=
  Zc7 3 hn fun i hi s hs Q x hq => by
    match i, hi with
    | 0, _ =>
      rw [e1] at hs
      have hs' : Zde [(k3, s3)] k1 = some s := hs
      simp only [Zde, n1] at hs'
      cases hs'
    | 1, _ =>
      rw [e2] at hs
      have hs' : Zde [(k3, s3)] k2 = some s := hs
      simp only [Zde, n2] at hs'
      cases hs'
    | 2, _ =>
      rw [e3] at hs
      have hs' : some s3 = some s := by simpa [Zde, hkl, hkA, Zbg] using hs
      cases hs'
      exact h3 Q x hq
theorem Zgd {h : Mh} {ss : List SesD} {t : List (List Int)} (hw : wid 4 t) (hl : t.length ≤ 9223372036854775807) : ZaE Tryz.prog (hkl [(68, ZcG), (69, sB clk), (56, sUp), (70, ZiI)] [(14, fTr h ss t)]) (Zar Tryz.f27) :=
  Ztn rfl rfl rfl (by kernel_rfl) (by kernel_rfl) (by kernel_rfl) (fun Q x hq => kTr hw hl Q x hq)
theorem cRMt (h : Mh) (ss : List SesD) (t : List (List Int)) (hA : okA h.w0 h.w1 h.w2 h.w3 = true) (hw : wid 4 t) (hl : t.length ≤ 9223372036854775807) (hs : okSS ss = true) : CT Tryz.prog 27 [.agg (macL 0 (h.on t) ss)] (B (mmay (h.on t) ss)) := by
  have hq : ∀ s ∈ ss, ZaA s = true := List.all_eq_true.1 hs
  rcases ss with _ | ⟨s0, _ | ⟨s1, _ | ⟨s2, _ | ⟨s3, _ | ⟨s4, l⟩⟩⟩⟩⟩
  · 
    have key : mmay (h.on t) [] = (amay (toZ h.w0) (toZ h.w1) (toZ h.w2) (toZ h.w3) && (clk h.ce && (!decide (((mZ t).length : Int) > 512) && (upto h.c0 0 h.ce && (upto h.c1 0 h.ce && (upto h.c2 0 h.ce && (upto h.c3 0 h.ce && !t.any noEv))))))) := by
      show (amay (toZ h.w0) (toZ h.w1) (toZ h.w2) (toZ h.w3) && ((ck4 h.c0 h.c1 h.c2 h.c3 && clk h.ce) && (!decide (mx4 h.c0 h.c1 h.c2 h.c3 > h.ce) && (!decide ((([] : List SesD).length : Int) > 4) && (!decide (((mZ t).length : Int) > 512) && (Zdl [] && (([] : List SesD).all (Zal h.w0 h.w1 h.w2 h.w3) && !(toZ (mZ t)).any noEv))))))) = _
      rw [Zfg, ← Bool.and_assoc (ck4 h.c0 h.c1 h.c2 h.c3 && clk h.ce), Zpv]
      simp only [Zdl, List.all_cons, List.all_nil, Bool.and_true, Bool.true_and, Zke, (by simp : (!decide ((([] : List SesD).length : Int) > 4)) = true)]
      try ac_rfl
    refine Zjc (m := [(14, fTr h [] t)]) (.cons ZgO (.cons ZgT (.cons oUp2 (.cons ZnD .nil)))) mixed (Zgd hw hl) Tryz.func27 rfl rfl rfl ?_
    rw [ZvC]
    refine ⟨?_⟩
    refine bO hA ?_
    refine bN (fun gA => ?_) (fun g => by rw [key, g]; rfl)
    refine bN (fun gC => ?_) (fun g => by rw [key, gA, g]; rfl)
    refine bP (fun gT => ?_) (fun g => by rw [key, gA, gC, g]; rfl)
    refine bN (fun gc0 => ?_) (fun g => by rw [key, gA, gC, gT, g]; simp)
    refine bN (fun gc1 => ?_) (fun g => by rw [key, gA, gC, gT, gc0, g]; simp)
    refine bN (fun gc2 => ?_) (fun g => by rw [key, gA, gC, gT, gc0, gc1, g]; simp)
    refine bN (fun gc3 => ?_) (fun g => by rw [key, gA, gC, gT, gc0, gc1, gc2, g]; simp)
    exact bT rfl (fun g => by rw [key, gA, gC, gT, gc0, gc1, gc2, gc3, g]; rfl) (fun g => by rw [key, gA, gC, gT, gc0, gc1, gc2, gc3, g]; rfl)
  · 
    have q0 : ZaA s0 = true := hq s0 (by simp)
    have key : mmay (h.on t) [s0] = (amay (toZ h.w0) (toZ h.w1) (toZ h.w2) (toZ h.w3) && (clk h.ce && (!decide (((mZ t).length : Int) > 512) && (upto h.c0 0 h.ce && (upto h.c1 0 h.ce && (upto h.c2 0 h.ce && (upto h.c3 0 h.ce && (Zal h.w0 h.w1 h.w2 h.w3 s0 && !t.any noEv)))))))) := by
      show (amay (toZ h.w0) (toZ h.w1) (toZ h.w2) (toZ h.w3) && ((ck4 h.c0 h.c1 h.c2 h.c3 && clk h.ce) && (!decide (mx4 h.c0 h.c1 h.c2 h.c3 > h.ce) && (!decide ((([s0] : List SesD).length : Int) > 4) && (!decide (((mZ t).length : Int) > 512) && (Zdl [s0] && (([s0] : List SesD).all (Zal h.w0 h.w1 h.w2 h.w3) && !(toZ (mZ t)).any noEv))))))) = _
      rw [Zfg, ← Bool.and_assoc (ck4 h.c0 h.c1 h.c2 h.c3 && clk h.ce), Zpv]
      simp only [Zdl, List.all_cons, List.all_nil, Bool.and_true, Bool.true_and, Zke, (by simp : (!decide ((([s0] : List SesD).length : Int) > 4)) = true)]
      try ac_rfl
    refine Zjc (m := [(14, fTr h [s0] t)]) (.cons ZgO (.cons ZgT (.cons oUp2 (.cons ZnD .nil)))) mixed (Zgd hw hl) Tryz.func27 rfl rfl rfl ?_
    rw [Zu9]
    refine ⟨?_⟩
    refine bO hA ?_
    refine bN (fun gA => ?_) (fun g => by rw [key, g]; rfl)
    refine bN (fun gC => ?_) (fun g => by rw [key, gA, g]; rfl)
    refine bP (fun gT => ?_) (fun g => by rw [key, gA, gC, g]; rfl)
    refine bN (fun gc0 => ?_) (fun g => by rw [key, gA, gC, gT, g]; simp)
    refine bN (fun gc1 => ?_) (fun g => by rw [key, gA, gC, gT, gc0, g]; simp)
    refine bN (fun gc2 => ?_) (fun g => by rw [key, gA, gC, gT, gc0, gc1, g]; simp)
    refine bN (fun gc3 => ?_) (fun g => by rw [key, gA, gC, gT, gc0, gc1, gc2, g]; simp)
    refine bO (by rw [hA, q0]; rfl) ?_
    refine bN (fun gs0 => ?_) (fun g => by rw [key, gA, gC, gT, gc0, gc1, gc2, gc3, g]; simp)
    exact bT rfl (fun g => by rw [key, gA, gC, gT, gc0, gc1, gc2, gc3, gs0, g]; rfl) (fun g => by rw [key, gA, gC, gT, gc0, gc1, gc2, gc3, gs0, g]; rfl)
  · 
    have q0 : ZaA s0 = true := hq s0 (by simp)
    have q1 : ZaA s1 = true := hq s1 (by simp)
    have key : mmay (h.on t) [s0, s1] = (amay (toZ h.w0) (toZ h.w1) (toZ h.w2) (toZ h.w3) && (clk h.ce && (!decide (((mZ t).length : Int) > 512) && (upto h.c0 0 h.ce && (upto h.c1 0 h.ce && (upto h.c2 0 h.ce && (upto h.c3 0 h.ce && (Zal h.w0 h.w1 h.w2 h.w3 s0 && (Zal h.w0 h.w1 h.w2 h.w3 s1 && (!decide (s1.id ≤ s0.id) && !t.any noEv)))))))))) := by
      show (amay (toZ h.w0) (toZ h.w1) (toZ h.w2) (toZ h.w3) && ((ck4 h.c0 h.c1 h.c2 h.c3 && clk h.ce) && (!decide (mx4 h.c0 h.c1 h.c2 h.c3 > h.ce) && (!decide ((([s0, s1] : List SesD).length : Int) > 4) && (!decide (((mZ t).length : Int) > 512) && (Zdl [s0, s1] && (([s0, s1] : List SesD).all (Zal h.w0 h.w1 h.w2 h.w3) && !(toZ (mZ t)).any noEv))))))) = _
      rw [Zfg, ← Bool.and_assoc (ck4 h.c0 h.c1 h.c2 h.c3 && clk h.ce), Zpv]
      simp only [Zdl, List.all_cons, List.all_nil, Bool.and_true, Bool.true_and, Zke, (by simp : (!decide ((([s0, s1] : List SesD).length : Int) > 4)) = true)]
      try ac_rfl
    refine Zjc (m := [(14, fTr h [s0, s1] t)]) (.cons ZgO (.cons ZgT (.cons oUp2 (.cons ZnD .nil)))) mixed (Zgd hw hl) Tryz.func27 rfl rfl rfl ?_
    rw [Zvj]
    refine ⟨?_⟩
    refine bO hA ?_
    refine bN (fun gA => ?_) (fun g => by rw [key, g]; rfl)
    refine bN (fun gC => ?_) (fun g => by rw [key, gA, g]; rfl)
    refine bP (fun gT => ?_) (fun g => by rw [key, gA, gC, g]; rfl)
    refine bN (fun gc0 => ?_) (fun g => by rw [key, gA, gC, gT, g]; simp)
    refine bN (fun gc1 => ?_) (fun g => by rw [key, gA, gC, gT, gc0, g]; simp)
    refine bN (fun gc2 => ?_) (fun g => by rw [key, gA, gC, gT, gc0, gc1, g]; simp)
    refine bN (fun gc3 => ?_) (fun g => by rw [key, gA, gC, gT, gc0, gc1, gc2, g]; simp)
    refine bO (by rw [hA, q0]; rfl) ?_
    refine bN (fun gs0 => ?_) (fun g => by rw [key, gA, gC, gT, gc0, gc1, gc2, gc3, g]; simp)
    refine bO (by rw [hA, q1]; rfl) ?_
    refine bN (fun gs1 => ?_) (fun g => by rw [key, gA, gC, gT, gc0, gc1, gc2, gc3, gs0, g]; simp)
    refine bP (fun gi1 => ?_) (fun g => by rw [key, gA, gC, gT, gc0, gc1, gc2, gc3, gs0, gs1, g]; simp)
    exact bT rfl (fun g => by rw [key, gA, gC, gT, gc0, gc1, gc2, gc3, gs0, gs1, gi1, g]; rfl) (fun g => by rw [key, gA, gC, gT, gc0, gc1, gc2, gc3, gs0, gs1, gi1, g]; rfl)
  · 
    have q0 : ZaA s0 = true := hq s0 (by simp)
    have q1 : ZaA s1 = true := hq s1 (by simp)
    have q2 : ZaA s2 = true := hq s2 (by simp)
    have key : mmay (h.on t) [s0, s1, s2] = (amay (toZ h.w0) (toZ h.w1) (toZ h.w2) (toZ h.w3) && (clk h.ce && (!decide (((mZ t).length : Int) > 512) && (upto h.c0 0 h.ce && (upto h.c1 0 h.ce && (upto h.c2 0 h.ce && (upto h.c3 0 h.ce && (Zal h.w0 h.w1 h.w2 h.w3 s0 && (Zal h.w0 h.w1 h.w2 h.w3 s1 && (!decide (s1.id ≤ s0.id) && (Zal h.w0 h.w1 h.w2 h.w3 s2 && (!decide (s2.id ≤ s1.id) && !t.any noEv)))))))))))) := by
      show (amay (toZ h.w0) (toZ h.w1) (toZ h.w2) (toZ h.w3) && ((ck4 h.c0 h.c1 h.c2 h.c3 && clk h.ce) && (!decide (mx4 h.c0 h.c1 h.c2 h.c3 > h.ce) && (!decide ((([s0, s1, s2] : List SesD).length : Int) > 4) && (!decide (((mZ t).length : Int) > 512) && (Zdl [s0, s1, s2] && (([s0, s1, s2] : List SesD).all (Zal h.w0 h.w1 h.w2 h.w3) && !(toZ (mZ t)).any noEv))))))) = _
      rw [Zfg, ← Bool.and_assoc (ck4 h.c0 h.c1 h.c2 h.c3 && clk h.ce), Zpv]
      simp only [Zdl, List.all_cons, List.all_nil, Bool.and_true, Bool.true_and, Zke, (by simp : (!decide ((([s0, s1, s2] : List SesD).length : Int) > 4)) = true)]
      try ac_rfl
    refine Zjc (m := [(14, fTr h [s0, s1, s2] t)]) (.cons ZgO (.cons ZgT (.cons oUp2 (.cons ZnD .nil)))) mixed (Zgd hw hl) Tryz.func27 rfl rfl rfl ?_
    rw [ZvU]
    refine ⟨?_⟩
    refine bO hA ?_
    refine bN (fun gA => ?_) (fun g => by rw [key, g]; rfl)
    refine bN (fun gC => ?_) (fun g => by rw [key, gA, g]; rfl)
    refine bP (fun gT => ?_) (fun g => by rw [key, gA, gC, g]; rfl)
    refine bN (fun gc0 => ?_) (fun g => by rw [key, gA, gC, gT, g]; simp)
    refine bN (fun gc1 => ?_) (fun g => by rw [key, gA, gC, gT, gc0, g]; simp)
    refine bN (fun gc2 => ?_) (fun g => by rw [key, gA, gC, gT, gc0, gc1, g]; simp)
    refine bN (fun gc3 => ?_) (fun g => by rw [key, gA, gC, gT, gc0, gc1, gc2, g]; simp)
    refine bO (by rw [hA, q0]; rfl) ?_
    refine bN (fun gs0 => ?_) (fun g => by rw [key, gA, gC, gT, gc0, gc1, gc2, gc3, g]; simp)
    refine bO (by rw [hA, q1]; rfl) ?_
    refine bN (fun gs1 => ?_) (fun g => by rw [key, gA, gC, gT, gc0, gc1, gc2, gc3, gs0, g]; simp)
    refine bP (fun gi1 => ?_) (fun g => by rw [key, gA, gC, gT, gc0, gc1, gc2, gc3, gs0, gs1, g]; simp)
    refine bO (by rw [hA, q2]; rfl) ?_
    refine bN (fun gs2 => ?_) (fun g => by rw [key, gA, gC, gT, gc0, gc1, gc2, gc3, gs0, gs1, gi1, g]; simp)
    refine bP (fun gi2 => ?_) (fun g => by rw [key, gA, gC, gT, gc0, gc1, gc2, gc3, gs0, gs1, gi1, gs2, g]; simp)
    exact bT rfl (fun g => by rw [key, gA, gC, gT, gc0, gc1, gc2, gc3, gs0, gs1, gi1, gs2, gi2, g]; rfl) (fun g => by rw [key, gA, gC, gT, gc0, gc1, gc2, gc3, gs0, gs1, gi1, gs2, gi2, g]; rfl)
  · 
    have q0 : ZaA s0 = true := hq s0 (by simp)
    have q1 : ZaA s1 = true := hq s1 (by simp)
    have q2 : ZaA s2 = true := hq s2 (by simp)
    have q3 : ZaA s3 = true := hq s3 (by simp)
    have key : mmay (h.on t) [s0, s1, s2, s3] = (amay (toZ h.w0) (toZ h.w1) (toZ h.w2) (toZ h.w3) && (clk h.ce && (!decide (((mZ t).length : Int) > 512) && (upto h.c0 0 h.ce && (upto h.c1 0 h.ce && (upto h.c2 0 h.ce && (upto h.c3 0 h.ce && (Zal h.w0 h.w1 h.w2 h.w3 s0 && (Zal h.w0 h.w1 h.w2 h.w3 s1 && (!decide (s1.id ≤ s0.id) && (Zal h.w0 h.w1 h.w2 h.w3 s2 && (!decide (s2.id ≤ s1.id) && (Zal h.w0 h.w1 h.w2 h.w3 s3 && (!decide (s3.id ≤ s2.id) && !t.any noEv)))))))))))))) := by
      show (amay (toZ h.w0) (toZ h.w1) (toZ h.w2) (toZ h.w3) && ((ck4 h.c0 h.c1 h.c2 h.c3 && clk h.ce) && (!decide (mx4 h.c0 h.c1 h.c2 h.c3 > h.ce) && (!decide ((([s0, s1, s2, s3] : List SesD).length : Int) > 4) && (!decide (((mZ t).length : Int) > 512) && (Zdl [s0, s1, s2, s3] && (([s0, s1, s2, s3] : List SesD).all (Zal h.w0 h.w1 h.w2 h.w3) && !(toZ (mZ t)).any noEv))))))) = _
      rw [Zfg, ← Bool.and_assoc (ck4 h.c0 h.c1 h.c2 h.c3 && clk h.ce), Zpv]
      simp only [Zdl, List.all_cons, List.all_nil, Bool.and_true, Bool.true_and, Zke, (by simp : (!decide ((([s0, s1, s2, s3] : List SesD).length : Int) > 4)) = true)]
      try ac_rfl
    refine Zjc (m := [(14, fTr h [s0, s1, s2, s3] t)]) (.cons ZgO (.cons ZgT (.cons oUp2 (.cons ZnD .nil)))) mixed (Zgd hw hl) Tryz.func27 rfl rfl rfl ?_
    rw [ZuD]
    refine ⟨?_⟩
    refine bO hA ?_
    refine bN (fun gA => ?_) (fun g => by rw [key, g]; rfl)
    refine bN (fun gC => ?_) (fun g => by rw [key, gA, g]; rfl)
    refine bP (fun gT => ?_) (fun g => by rw [key, gA, gC, g]; rfl)
    refine bN (fun gc0 => ?_) (fun g => by rw [key, gA, gC, gT, g]; simp)
    refine bN (fun gc1 => ?_) (fun g => by rw [key, gA, gC, gT, gc0, g]; simp)
    refine bN (fun gc2 => ?_) (fun g => by rw [key, gA, gC, gT, gc0, gc1, g]; simp)
    refine bN (fun gc3 => ?_) (fun g => by rw [key, gA, gC, gT, gc0, gc1, gc2, g]; simp)
    refine bO (by rw [hA, q0]; rfl) ?_
    refine bN (fun gs0 => ?_) (fun g => by rw [key, gA, gC, gT, gc0, gc1, gc2, gc3, g]; simp)
    refine bO (by rw [hA, q1]; rfl) ?_
    refine bN (fun gs1 => ?_) (fun g => by rw [key, gA, gC, gT, gc0, gc1, gc2, gc3, gs0, g]; simp)
    refine bP (fun gi1 => ?_) (fun g => by rw [key, gA, gC, gT, gc0, gc1, gc2, gc3, gs0, gs1, g]; simp)
    refine bO (by rw [hA, q2]; rfl) ?_
    refine bN (fun gs2 => ?_) (fun g => by rw [key, gA, gC, gT, gc0, gc1, gc2, gc3, gs0, gs1, gi1, g]; simp)
    refine bP (fun gi2 => ?_) (fun g => by rw [key, gA, gC, gT, gc0, gc1, gc2, gc3, gs0, gs1, gi1, gs2, g]; simp)
    refine bO (by rw [hA, q3]; rfl) ?_
    refine bN (fun gs3 => ?_) (fun g => by rw [key, gA, gC, gT, gc0, gc1, gc2, gc3, gs0, gs1, gi1, gs2, gi2, g]; simp)
    refine bP (fun gi3 => ?_) (fun g => by rw [key, gA, gC, gT, gc0, gc1, gc2, gc3, gs0, gs1, gi1, gs2, gi2, gs3, g]; simp)
    exact bT rfl (fun g => by rw [key, gA, gC, gT, gc0, gc1, gc2, gc3, gs0, gs1, gi1, gs2, gi2, gs3, gi3, g]; rfl) (fun g => by rw [key, gA, gC, gT, gc0, gc1, gc2, gc3, gs0, gs1, gi1, gs2, gi2, gs3, gi3, g]; rfl)
  · refine Zjc (l := [(68, ZcG), (69, sB clk), (56, sUp)]) (m := [(4, fun _ _ => False)]) (.cons ZgO (.cons ZgT (.cons oUp2 .nil))) mixed ZlT Tryz.func27 rfl rfl rfl ?_
    rw [Zvv]
    refine ⟨?_⟩
    have h6 : mmay (h.on t) (s0 :: s1 :: s2 :: s3 :: s4 :: l) = false := by
      unfold mmay
      rw [(by simp; omega : (!decide (((s0 :: s1 :: s2 :: s3 :: s4 :: l).length : Int) > 4)) = false)]
      simp
    rw [h6]
    refine bO hA (bN (fun _ => bN (fun _ => bP (fun g => ?_) fun _ => rfl) fun _ => rfl) fun _ => rfl)
    simp at g
    omega
theorem cRM (h : Mh) (ss : List SesD) (hok : okM h ss = true) : CT Tryz.prog 27 [.agg (macL 0 h ss)] (B (mmay h ss)) := by
  obtain ⟨h1, h2, h3⟩ := ZbH hok
  obtain ⟨e, hw, hl⟩ := Zag h2
  have := cRMt h ss (toZ h.tr) h1 hw (by rw [Zak]; exact hl) h3
  have eh : h.on (toZ h.tr) = h := by unfold Mh.on; rw [← e]
  rwa [eh] at this
def sRMm : Spec := fun ds Q => match ds with
  | [d] => macA d fun h ss => cond (okM h ss) (Q (B (mmay h ss))) False
  | _ => False
theorem oRMm : Zad Tryz.prog 27 sRMm := o_al Tryz.func27 (by kernel_rfl) rfl fun ds Q h => by
  unfold sRMm at h; split at h
  · obtain ⟨m, ss, h, r⟩ := ZcI h
    obtain ⟨h1, h2⟩ := Zaf h
    exact ⟨_, _, .cons r .nil, cRM m ss h1, rfl, rfl, h2⟩
  · exact h.elim
end

section
open Go Go.Proofs
theorem ZiY {R : List (List D)} (h : smR 4398046510977 R = true) : allV R = true ∧ decide (R.length * 32 ≤ 140737488355328) = true ∧ decide (R.length ≤ 9223372036854775807) = true ∧ (R.all fun r => r.all D.keeps) = true := by
  obtain ⟨a, b, c⟩ := Zac h
  exact ⟨a, decide_eq_true (by omega), decide_eq_true (by omega), c⟩
theorem ZlW {R : List (List D)} (h : smR 5864062014635 R = true) : allV R = true ∧ decide (R.length * 24 ≤ 140737488355328) = true ∧ decide (R.length ≤ 9223372036854775807) = true ∧ (R.all fun r => r.all D.keeps) = true := by
  obtain ⟨a, b, c⟩ := Zac h
  exact ⟨a, decide_eq_true (by omega), decide_eq_true (by omega), c⟩
theorem ZuU (s : SesD) (K : DV → Prop) : (ask Tryz.prog [] Tryz.f98 [.agg (sesL 0 s)] K) = (bif allV s.pg then bif true && (decide ((0 + List.length s.pg) * 32 ≤ 140737488355328) && decide (0 + List.length s.pg ≤ 9223372036854775807)) then bif allV s.rd then bif true && (decide ((0 + List.length s.rd) * 24 ≤ 140737488355328) && decide (0 + List.length s.rd ≤ 9223372036854775807)) then bif allV s.wt then bif true && (decide ((0 + List.length s.wt) * 24 ≤ 140737488355328) && decide (0 + List.length s.wt ≤ 9223372036854775807)) then bif decide (0 + List.length s.pg ≤ List.length ([] ++ s.pg)) && List.all ([] ++ s.pg) fun r => List.all r D.keeps then bif decide (0 + List.length s.rd ≤ List.length ([] ++ s.rd)) && List.all ([] ++ s.rd) fun r => List.all r D.keeps then bif decide (0 + List.length s.wt ≤ List.length ([] ++ s.wt)) && List.all ([] ++ s.wt) fun r => List.all r D.keeps then K (DV.agg [vN s.id, vN s.lb, vN s.cl, D.s (1) (4) (List.take (0 + List.length s.pg) ([] ++ s.pg)) (List.take (0 + List.length s.pg - (0 + List.length s.pg)) (List.drop (0 + List.length s.pg) ([] ++ s.pg))), vN s.st, vN s.pc, vN s.r0, vN s.r1, vN s.r2, vN s.r3, D.s (1) (3) (List.take (0 + List.length s.rd) ([] ++ s.rd)) (List.take (0 + List.length s.rd - (0 + List.length s.rd)) (List.drop (0 + List.length s.rd) ([] ++ s.rd))), D.s (1) (3) (List.take (0 + List.length s.wt) ([] ++ s.wt)) (List.take (0 + List.length s.wt - (0 + List.length s.wt)) (List.drop (0 + List.length s.wt) ([] ++ s.wt))), vN s.at', vN s.sp, vN s.tr, vN s.rs, vN s.to]) else False else False else False else False else False else False else False else False else False) := by kernel_rfl
theorem Zv5 (s : SesD) (hs : smS s = true) : CT Tryz.prog 98 [.agg (sesL 0 s)] (.agg (sesL 1 s)) := by
  obtain ⟨h1, h2, h3⟩ := ZaI hs
  obtain ⟨a1, a2, a3, a4⟩ := ZiY h1
  obtain ⟨b1, b2, b3, b4⟩ := ZlW h2
  obtain ⟨c1, c2, c3, c4⟩ := ZlW h3
  refine ct_s .nil mixed Tryz.func98 rfl rfl rfl ?_
  rw [ZuU]
  refine ⟨?_⟩
  simp only [a1, a2, a3, a4, b1, b2, b3, b4, c1, c2, c3, c4, Nat.zero_add, List.nil_append, List.append_nil, Nat.le_refl, decide_true, Bool.and_self, Bool.true_and, cond_true, ZbJ, Nat.add_zero, Nat.sub_self, List.take_zero]
  rfl
theorem ZnP : Zad Tryz.prog 98 Zcv := o_al Tryz.func98 (by kernel_rfl) rfl fun ds Q h => by
  unfold Zcv at h; split at h
  · obtain ⟨s, h, r⟩ := ZbK h
    obtain ⟨h1, h2⟩ := Zaf h
    exact ⟨_, _, .cons r .nil, Zv5 s h1, ZfD h1, rfl, h2⟩
  · exact h.elim
theorem ZuJ (s : SesD) (K : DV → Prop) : (ask Tryz.prog [] Tryz.f47 [.agg (sesL 0 s)] K) = (bif allV s.pg then bif true && (decide ((0 + List.length s.pg) * 32 ≤ 140737488355328) && decide (0 + List.length s.pg ≤ 9223372036854775807)) then bif allV s.rd then bif true && (decide ((0 + List.length s.rd) * 24 ≤ 140737488355328) && decide (0 + List.length s.rd ≤ 9223372036854775807)) then bif allV s.wt then bif true && (decide ((0 + List.length s.wt) * 24 ≤ 140737488355328) && decide (0 + List.length s.wt ≤ 9223372036854775807)) then bif decide (0 + List.length s.pg ≤ List.length ([] ++ s.pg)) && List.all ([] ++ s.pg) fun r => List.all r D.keeps then bif decide (0 + List.length s.rd ≤ List.length ([] ++ s.rd)) && List.all ([] ++ s.rd) fun r => List.all r D.keeps then bif decide (0 + List.length s.wt ≤ List.length ([] ++ s.wt)) && List.all ([] ++ s.wt) fun r => List.all r D.keeps then K (DV.agg [vN s.id, vN s.lb, vN s.cl, D.s (1) (4) (List.take (0 + List.length s.pg) ([] ++ s.pg)) (List.take (0 + List.length s.pg - (0 + List.length s.pg)) (List.drop (0 + List.length s.pg) ([] ++ s.pg))), vN s.st, vN s.pc, vN s.r0, vN s.r1, vN s.r2, vN s.r3, D.s (1) (3) (List.take (0 + List.length s.rd) ([] ++ s.rd)) (List.take (0 + List.length s.rd - (0 + List.length s.rd)) (List.drop (0 + List.length s.rd) ([] ++ s.rd))), D.s (1) (3) (List.take (0 + List.length s.wt) ([] ++ s.wt)) (List.take (0 + List.length s.wt - (0 + List.length s.wt)) (List.drop (0 + List.length s.wt) ([] ++ s.wt))), vN s.at', vN s.sp, vN s.tr, vN s.rs, vN s.to]) else False else False else False else False else False else False else False else False else False) := by kernel_rfl
theorem ZvG (s : SesD) (hs : smS s = true) : CT Tryz.prog 47 [.agg (sesL 0 s)] (.agg (sesL 1 s)) := by
  obtain ⟨h1, h2, h3⟩ := ZaI hs
  obtain ⟨a1, a2, a3, a4⟩ := ZiY h1
  obtain ⟨b1, b2, b3, b4⟩ := ZlW h2
  obtain ⟨c1, c2, c3, c4⟩ := ZlW h3
  refine ct_s .nil mixed Tryz.func47 rfl rfl rfl ?_
  rw [ZuJ]
  refine ⟨?_⟩
  simp only [a1, a2, a3, a4, b1, b2, b3, b4, c1, c2, c3, c4, Nat.zero_add, List.nil_append, List.append_nil, Nat.le_refl, decide_true, Bool.and_self, Bool.true_and, cond_true, ZbJ, Nat.add_zero, Nat.sub_self, List.take_zero]
  rfl
theorem Zr2 : Zad Tryz.prog 47 Zcv := o_al Tryz.func47 (by kernel_rfl) rfl fun ds Q h => by
  unfold Zcv at h; split at h
  · obtain ⟨s, h, r⟩ := ZbK h
    obtain ⟨h1, h2⟩ := Zaf h
    exact ⟨_, _, .cons r .nil, ZvG s h1, ZfD h1, rfl, h2⟩
  · exact h.elim
-- RSUB bif decide \(List\.length ([a-z0-9.]+) ≤ List\.length \(\1 \+\+ \[\]\)\) && List\.all \(\1 \+\+ \[\]\) fun r => List\.all r D\.keeps then =>> bif kX \1 then
-- RSUB List\.take \(List\.length ([a-z0-9.]+) \+ 0 - List\.length \1\) \(List\.drop \(List\.length \1\) \(\1 \+\+ \[\]\)\) =>> tD \1
-- RSUB List\.take \(List\.length ([a-z0-9.]+)\) \(\1 \+\+ \[\]\) =>> tC \1
-- RSUB \[vN ([a-z0-9]+)\.id, vN \1\.lb, vN \1\.cl, D\.s \(1\) \(4\) \(tC \1\.pg\) \(tD \1\.pg\), vN \1\.st, vN \1\.pc, vN \1\.r0, vN \1\.r1, vN \1\.r2, vN \1\.r3, D\.s \(1\) \(3\) \(tC \1\.rd\) \(tD \1\.rd\), D\.s \(1\) \(3\) \(tC \1\.wt\) \(tD \1\.wt\), vN \1\.at', vN \1\.sp, vN \1\.tr, vN \1\.rs, vN \1\.to\] =>> (sTt \1)
theorem ZtP (h : Mh) (K : DV → Prop) : (askH Tryz.prog (hkM [(97, ZbP), (98, Zcv)] [] []) Tryz.f58 [.agg (macL 0 h [])] K) = (bif okC4 h.w0 h.w1 h.w2 h.w3 then bif allV h.tr then bif true && (decide ((0 + List.length h.tr) * 32 ≤ 140737488355328) && decide (0 + List.length h.tr ≤ 9223372036854775807)) then bif kX h.w0 then bif kX h.w1 then bif kX h.w2 then bif kX h.w3 then bif decide (0 + List.length h.tr ≤ List.length ([] ++ h.tr)) && List.all ([] ++ h.tr) fun r => List.all r D.keeps then K (DV.agg [D.s (1) (3) (tC h.w0) (tD h.w0), D.s (1) (3) (tC h.w1) (tD h.w1), D.s (1) (3) (tC h.w2) (tD h.w2), D.s (1) (3) (tC h.w3) (tD h.w3), vN h.c0, vN h.c1, vN h.c2, vN h.c3, vN h.ce, nilV, D.s (1) (4) (List.take (0 + List.length h.tr) ([] ++ h.tr)) (List.take (0 + List.length h.tr - (0 + List.length h.tr)) (List.drop (0 + List.length h.tr) ([] ++ h.tr)))]) else False else False else False else False else False else False else False else False) := by kernel_rfl
theorem Zt3 (h : Mh) (s0 : SesD) (K : DV → Prop) : (askH Tryz.prog (hkM [(97, ZbP), (98, Zcv)] [] []) Tryz.f58 [.agg (macL 0 h [s0])] K) = (bif okC4 h.w0 h.w1 h.w2 h.w3 then bif smS s0 then bif allV h.tr then bif true && (decide ((0 + List.length h.tr) * 32 ≤ 140737488355328) && decide (0 + List.length h.tr ≤ 9223372036854775807)) then bif kX h.w0 then bif kX h.w1 then bif kX h.w2 then bif kX h.w3 then bif kX s0.pg then bif kX s0.rd then bif kX s0.wt then bif decide (0 + List.length h.tr ≤ List.length ([] ++ h.tr)) && List.all ([] ++ h.tr) fun r => List.all r D.keeps then K (DV.agg [D.s (1) (3) (tC h.w0) (tD h.w0), D.s (1) (3) (tC h.w1) (tD h.w1), D.s (1) (3) (tC h.w2) (tD h.w2), D.s (1) (3) (tC h.w3) (tD h.w3), vN h.c0, vN h.c1, vN h.c2, vN h.c3, vN h.ce, D.s (1) (17) [(sTt s0)] [], D.s (1) (4) (List.take (0 + List.length h.tr) ([] ++ h.tr)) (List.take (0 + List.length h.tr - (0 + List.length h.tr)) (List.drop (0 + List.length h.tr) ([] ++ h.tr)))]) else False else False else False else False else False else False else False else False else False else False else False else False) := by kernel_rfl
theorem Zs9 (h : Mh) (s0 s1 : SesD) (K : DV → Prop) : (askH Tryz.prog (hkM [(97, ZbP), (98, Zcv)] [] []) Tryz.f58 [.agg (macL 0 h [s0, s1])] K) = (bif okC4 h.w0 h.w1 h.w2 h.w3 then bif smS s0 then bif smS s1 then bif allV h.tr then bif true && (decide ((0 + List.length h.tr) * 32 ≤ 140737488355328) && decide (0 + List.length h.tr ≤ 9223372036854775807)) then bif kX h.w0 then bif kX h.w1 then bif kX h.w2 then bif kX h.w3 then bif kX s0.pg then bif kX s0.rd then bif kX s0.wt then bif kX s1.pg then bif kX s1.rd then bif kX s1.wt then bif decide (0 + List.length h.tr ≤ List.length ([] ++ h.tr)) && List.all ([] ++ h.tr) fun r => List.all r D.keeps then K (DV.agg [D.s (1) (3) (tC h.w0) (tD h.w0), D.s (1) (3) (tC h.w1) (tD h.w1), D.s (1) (3) (tC h.w2) (tD h.w2), D.s (1) (3) (tC h.w3) (tD h.w3), vN h.c0, vN h.c1, vN h.c2, vN h.c3, vN h.ce, D.s (1) (17) [(sTt s0), (sTt s1)] [], D.s (1) (4) (List.take (0 + List.length h.tr) ([] ++ h.tr)) (List.take (0 + List.length h.tr - (0 + List.length h.tr)) (List.drop (0 + List.length h.tr) ([] ++ h.tr)))]) else False else False else False else False else False else False else False else False else False else False else False else False else False else False else False else False) := by kernel_rfl
theorem Zta (h : Mh) (s0 s1 s2 : SesD) (K : DV → Prop) : (askH Tryz.prog (hkM [(97, ZbP), (98, Zcv)] [] []) Tryz.f58 [.agg (macL 0 h [s0, s1, s2])] K) = (bif okC4 h.w0 h.w1 h.w2 h.w3 then bif smS s0 then bif smS s1 then bif smS s2 then bif allV h.tr then bif true && (decide ((0 + List.length h.tr) * 32 ≤ 140737488355328) && decide (0 + List.length h.tr ≤ 9223372036854775807)) then bif kX h.w0 then bif kX h.w1 then bif kX h.w2 then bif kX h.w3 then bif kX s0.pg then bif kX s0.rd then bif kX s0.wt then bif kX s1.pg then bif kX s1.rd then bif kX s1.wt then bif kX s2.pg then bif kX s2.rd then bif kX s2.wt then bif decide (0 + List.length h.tr ≤ List.length ([] ++ h.tr)) && List.all ([] ++ h.tr) fun r => List.all r D.keeps then K (DV.agg [D.s (1) (3) (tC h.w0) (tD h.w0), D.s (1) (3) (tC h.w1) (tD h.w1), D.s (1) (3) (tC h.w2) (tD h.w2), D.s (1) (3) (tC h.w3) (tD h.w3), vN h.c0, vN h.c1, vN h.c2, vN h.c3, vN h.ce, D.s (1) (17) [(sTt s0), (sTt s1), (sTt s2)] [], D.s (1) (4) (List.take (0 + List.length h.tr) ([] ++ h.tr)) (List.take (0 + List.length h.tr - (0 + List.length h.tr)) (List.drop (0 + List.length h.tr) ([] ++ h.tr)))]) else False else False else False else False else False else False else False else False else False else False else False else False else False else False else False else False else False else False else False else False) := by kernel_rfl
theorem ZsU (h : Mh) (s0 s1 s2 s3 : SesD) (K : DV → Prop) : (askH Tryz.prog (hkM [(97, ZbP), (98, Zcv)] [] []) Tryz.f58 [.agg (macL 0 h [s0, s1, s2, s3])] K) = (bif okC4 h.w0 h.w1 h.w2 h.w3 then bif smS s0 then bif smS s1 then bif smS s2 then bif smS s3 then bif allV h.tr then bif true && (decide ((0 + List.length h.tr) * 32 ≤ 140737488355328) && decide (0 + List.length h.tr ≤ 9223372036854775807)) then bif kX h.w0 then bif kX h.w1 then bif kX h.w2 then bif kX h.w3 then bif kX s0.pg then bif kX s0.rd then bif kX s0.wt then bif kX s1.pg then bif kX s1.rd then bif kX s1.wt then bif kX s2.pg then bif kX s2.rd then bif kX s2.wt then bif kX s3.pg then bif kX s3.rd then bif kX s3.wt then bif decide (0 + List.length h.tr ≤ List.length ([] ++ h.tr)) && List.all ([] ++ h.tr) fun r => List.all r D.keeps then K (DV.agg [D.s (1) (3) (tC h.w0) (tD h.w0), D.s (1) (3) (tC h.w1) (tD h.w1), D.s (1) (3) (tC h.w2) (tD h.w2), D.s (1) (3) (tC h.w3) (tD h.w3), vN h.c0, vN h.c1, vN h.c2, vN h.c3, vN h.ce, D.s (1) (17) [(sTt s0), (sTt s1), (sTt s2), (sTt s3)] [], D.s (1) (4) (List.take (0 + List.length h.tr) ([] ++ h.tr)) (List.take (0 + List.length h.tr - (0 + List.length h.tr)) (List.drop (0 + List.length h.tr) ([] ++ h.tr)))]) else False else False else False else False else False else False else False else False else False else False else False else False else False else False else False else False else False else False else False else False else False else False else False else False) := by kernel_rfl
theorem ZtF (h : Mh) (ss : List SesD) (hl : ss.length ≤ 4) (hm : smM h ss = true) : CT Tryz.prog 58 [.agg (macL 0 h ss)] (.agg (macL 1 h ss)) := by
  have h4 := Zms hm
  obtain ⟨⟨a0, a1, a2, a3⟩, a4, a5⟩ := ZdG hm
  obtain ⟨_, _, b0⟩ := Zac a0
  obtain ⟨_, _, b1⟩ := Zac a1
  obtain ⟨_, _, b2⟩ := Zac a2
  obtain ⟨_, _, b3⟩ := Zac a3
  obtain ⟨t1, t2, t3, t4⟩ := ZiY a4
  rcases ss with _ | ⟨s0, _ | ⟨s1, _ | ⟨s2, _ | ⟨s3, _ | ⟨s4, l⟩⟩⟩⟩⟩
  · refine ZsI (.cons Zjx (.cons ZnP .nil)) .nil .nil mixed Tryz.func58 rfl rfl rfl ?_
    rw [ZtP]
    refine ⟨?_⟩
    simp only [kX, tC, tD, sTt]
    simp only [h4, b0, b1, b2, b3, t1, t2, t3, t4, Nat.zero_add, List.nil_append, List.append_nil, Nat.le_refl, decide_true, Bool.and_self, Bool.true_and, cond_true, ZbJ, Nat.add_zero, Nat.sub_self, List.take_zero]
    exact .aggO (.cons (.refl _) (.cons (.refl _) (.cons (.refl _) (.cons (.refl _) (.cons (.refl _) (.cons (.refl _) (.cons (.refl _) (.cons (.refl _) (.cons (.refl _) (.cons (.nil 17) (.cons (.refl _) .nil)))))))))))
  · have q0 := a5 s0 (by simp)
    obtain ⟨p0, r0, w0⟩ := ZaI q0
    obtain ⟨_, _, x0⟩ := Zac p0
    obtain ⟨_, _, y0⟩ := Zac r0
    obtain ⟨_, _, z0⟩ := Zac w0
    refine ct_m (.cons Zjx (.cons ZnP .nil)) .nil .nil mixed Tryz.func58 rfl rfl rfl ?_
    rw [Zt3]
    refine ⟨?_⟩
    simp only [kX, tC, tD, sTt]
    simp only [h4, b0, b1, b2, b3, t1, t2, t3, t4, q0, x0, y0, z0, Nat.zero_add, List.nil_append, List.append_nil, Nat.le_refl, decide_true, Bool.and_self, Bool.true_and, cond_true, ZbJ, Nat.add_zero, Nat.sub_self, List.take_zero]
    rfl
  · have q0 := a5 s0 (by simp)
    obtain ⟨p0, r0, w0⟩ := ZaI q0
    obtain ⟨_, _, x0⟩ := Zac p0
    obtain ⟨_, _, y0⟩ := Zac r0
    obtain ⟨_, _, z0⟩ := Zac w0
    have q1 := a5 s1 (by simp)
    obtain ⟨p1, r1, w1⟩ := ZaI q1
    obtain ⟨_, _, x1⟩ := Zac p1
    obtain ⟨_, _, y1⟩ := Zac r1
    obtain ⟨_, _, z1⟩ := Zac w1
    refine ct_m (.cons Zjx (.cons ZnP .nil)) .nil .nil mixed Tryz.func58 rfl rfl rfl ?_
    rw [Zs9]
    refine ⟨?_⟩
    simp only [kX, tC, tD, sTt]
    simp only [h4, b0, b1, b2, b3, t1, t2, t3, t4, q0, x0, y0, z0, q1, x1, y1, z1, Nat.zero_add, List.nil_append, List.append_nil, Nat.le_refl, decide_true, Bool.and_self, Bool.true_and, cond_true, ZbJ, Nat.add_zero, Nat.sub_self, List.take_zero]
    rfl
  · have q0 := a5 s0 (by simp)
    obtain ⟨p0, r0, w0⟩ := ZaI q0
    obtain ⟨_, _, x0⟩ := Zac p0
    obtain ⟨_, _, y0⟩ := Zac r0
    obtain ⟨_, _, z0⟩ := Zac w0
    have q1 := a5 s1 (by simp)
    obtain ⟨p1, r1, w1⟩ := ZaI q1
    obtain ⟨_, _, x1⟩ := Zac p1
    obtain ⟨_, _, y1⟩ := Zac r1
    obtain ⟨_, _, z1⟩ := Zac w1
    have q2 := a5 s2 (by simp)
    obtain ⟨p2, r2, w2⟩ := ZaI q2
    obtain ⟨_, _, x2⟩ := Zac p2
    obtain ⟨_, _, y2⟩ := Zac r2
    obtain ⟨_, _, z2⟩ := Zac w2
    refine ct_m (.cons Zjx (.cons ZnP .nil)) .nil .nil mixed Tryz.func58 rfl rfl rfl ?_
    rw [Zta]
    refine ⟨?_⟩
    simp only [kX, tC, tD, sTt]
    simp only [h4, b0, b1, b2, b3, t1, t2, t3, t4, q0, x0, y0, z0, q1, x1, y1, z1, q2, x2, y2, z2, Nat.zero_add, List.nil_append, List.append_nil, Nat.le_refl, decide_true, Bool.and_self, Bool.true_and, cond_true, ZbJ, Nat.add_zero, Nat.sub_self, List.take_zero]
    rfl
  · have q0 := a5 s0 (by simp)
    obtain ⟨p0, r0, w0⟩ := ZaI q0
    obtain ⟨_, _, x0⟩ := Zac p0
    obtain ⟨_, _, y0⟩ := Zac r0
    obtain ⟨_, _, z0⟩ := Zac w0
    have q1 := a5 s1 (by simp)
    obtain ⟨p1, r1, w1⟩ := ZaI q1
    obtain ⟨_, _, x1⟩ := Zac p1
    obtain ⟨_, _, y1⟩ := Zac r1
    obtain ⟨_, _, z1⟩ := Zac w1
    have q2 := a5 s2 (by simp)
    obtain ⟨p2, r2, w2⟩ := ZaI q2
    obtain ⟨_, _, x2⟩ := Zac p2
    obtain ⟨_, _, y2⟩ := Zac r2
    obtain ⟨_, _, z2⟩ := Zac w2
    have q3 := a5 s3 (by simp)
    obtain ⟨p3, r3, w3⟩ := ZaI q3
    obtain ⟨_, _, x3⟩ := Zac p3
    obtain ⟨_, _, y3⟩ := Zac r3
    obtain ⟨_, _, z3⟩ := Zac w3
    refine ct_m (.cons Zjx (.cons ZnP .nil)) .nil .nil mixed Tryz.func58 rfl rfl rfl ?_
    rw [ZsU]
    refine ⟨?_⟩
    simp only [kX, tC, tD, sTt]
    simp only [h4, b0, b1, b2, b3, t1, t2, t3, t4, q0, x0, y0, z0, q1, x1, y1, z1, q2, x2, y2, z2, q3, x3, y3, z3, Nat.zero_add, List.nil_append, List.append_nil, Nat.le_refl, decide_true, Bool.and_self, Bool.true_and, cond_true, ZbJ, Nat.add_zero, Nat.sub_self, List.take_zero]
    rfl
  · simp at hl
theorem ZvX : Zad Tryz.prog 58 sCop := o_al Tryz.func58 (by kernel_rfl) rfl fun ds Q h => by
  unfold sCop at h; split at h
  · obtain ⟨m, ss, h, r⟩ := ZcI h
    obtain ⟨h1, h2⟩ := Zaf h
    rw [Bool.and_eq_true] at h1
    exact ⟨_, _, .cons r .nil, ZtF m ss (Nat.le_of_ble_eq_true h1.1) h1.2, Ziq h1.2, rfl, h2⟩
  · exact h.elim
theorem ZtQ (h : Mh) (K : DV → Prop) : (askH Tryz.prog (hkM [(46, ZbP), (47, Zcv)] [] []) Tryz.f19 [.agg (macL 0 h [])] K) = (bif okC4 h.w0 h.w1 h.w2 h.w3 then bif allV h.tr then bif true && (decide ((0 + List.length h.tr) * 32 ≤ 140737488355328) && decide (0 + List.length h.tr ≤ 9223372036854775807)) then bif kX h.w0 then bif kX h.w1 then bif kX h.w2 then bif kX h.w3 then bif decide (0 + List.length h.tr ≤ List.length ([] ++ h.tr)) && List.all ([] ++ h.tr) fun r => List.all r D.keeps then K (DV.agg [D.s (1) (3) (tC h.w0) (tD h.w0), D.s (1) (3) (tC h.w1) (tD h.w1), D.s (1) (3) (tC h.w2) (tD h.w2), D.s (1) (3) (tC h.w3) (tD h.w3), vN h.c0, vN h.c1, vN h.c2, vN h.c3, vN h.ce, nilV, D.s (1) (4) (List.take (0 + List.length h.tr) ([] ++ h.tr)) (List.take (0 + List.length h.tr - (0 + List.length h.tr)) (List.drop (0 + List.length h.tr) ([] ++ h.tr)))]) else False else False else False else False else False else False else False else False) := by kernel_rfl
end

section
open Go Go.Proofs
theorem CTN.args {P : Program} {f : FuncId} {ds es : List DV} {r : DV} (h : All2 AL ds es) (hc : CTN P f es r) : CTN P f ds r := fun w vs S G hov => by
  refine hc w vs S G ?_
  cases hov with
  | tup _ _ _ sub h1 h2 h3 h4 =>
    refine .tup vs es S sub (by rw [← h.len]; exact h1) (fun i e hi => ?_) h3 h4
    obtain ⟨d, g1, g2⟩ := h.get hi
    exact g2 _ _ _ _ (h2 i d g1)
theorem Zpe {P : Program} {f : FuncId} {s s' : Spec} (hs : Zad P f s) (hd : ∀ ds Q, s' ds Q → ∃ es, All2 AL ds es ∧ s es Q) : Zad P f s' := fun ds Q h => by
  obtain ⟨es, h1, h2⟩ := hd ds Q h
  obtain ⟨hg, r, hc, hp, hf, hq⟩ := hs es Q h2
  exact ⟨hg, r, hc.args h1, .inr (.inr ((ZjN hc hp).args h1)), hf, hq⟩
def Zo2 (cs : List D) (K : List (List D) → List (List D) → List (List D) → List (List D) → Prop) : Prop := match cs with
  | [a, b, c, d] => Zb5 1 a fun a => Zb5 1 b fun b => Zb5 1 c fun c => Zb5 1 d fun d => K a b c d
  | _ => False
theorem Zkl {cs : List D} {K : List (List D) → List (List D) → List (List D) → List (List D) → Prop} (h : Zo2 cs K) : ∃ a b c d, K a b c d ∧ All2 RD cs [.s 0 1 a [], .s 0 1 b [], .s 0 1 c [], .s 0 1 d []] := by
  unfold Zo2 at h
  split at h
  · obtain ⟨a, h, e0⟩ := Zav h
    obtain ⟨b, h, e1⟩ := Zav h
    obtain ⟨c, h, e2⟩ := Zav h
    obtain ⟨d, h, e3⟩ := Zav h
    exact ⟨a, b, c, d, h, .cons e0 (.cons e1 (.cons e2 (.cons e3 .nil)))⟩
  · exact h.elim
def Zqg : Spec := fun ds Q => match ds with
  | [.agg cs] => cond (ZkR cs) (Zo2 cs fun R0 R1 R2 R3 => cond (okV4 R0 R1 R2 R3) (cond (amay (toZ (mW R0)) (toZ (mW R1)) (toZ (mW R2)) (toZ (mW R3))) (Q (.tup [dO (mW R0) (mW R1) (mW R2) (mW R3), I 0])) (Q (.tup [dNil, I 400]))) False) False
  | _ => False
theorem ZpY : ∀ ds Q, Zqg ds Q → ∃ es, All2 AL ds es ∧ sNew es Q := fun ds Q h => by
  unfold Zqg at h; split at h
  · obtain ⟨h0, h⟩ := Zaf h
    obtain ⟨a, b, c, d, h, r⟩ := Zkl h
    exact ⟨_, .cons (.agg r h0 rfl) .nil, h⟩
  · exact h.elim
theorem Zuq : Zad Tryz.prog 50 Zqg := Zpe ZvO ZpY
def ZnU (cs : List D) (K : Int → Int → Int → List (List D) → Prop) : Prop := match cs with
  | [a, b, c, d] => ZbG a fun a => ZbG b fun b => ZbG c fun c => Zb5 4 d fun d => K a b c d
  | _ => False
theorem Zlv {cs : List D} {K : Int → Int → Int → List (List D) → Prop} (h : ZnU cs K) : ∃ a b c d, K a b c d ∧ All2 RD cs [vN a, vN b, vN c, .s 0 4 d []] := by
  unfold ZnU at h
  split at h
  · obtain ⟨a, h, e0⟩ := Zan h
    obtain ⟨b, h, e1⟩ := Zan h
    obtain ⟨c, h, e2⟩ := Zan h
    obtain ⟨d, h, e3⟩ := Zav h
    exact ⟨a, b, c, d, h, .cons e0 (.cons e1 (.cons e2 (.cons e3 .nil)))⟩
  · exact h.elim
def Zmg : Spec := fun ds Q => match ds with
  | [.agg cs] => cond (ZkR cs) (ZnU cs fun i g c R => cond (okZ 4 R && decide (R.length ≤ 4398046510977)) (cond (smay i g c (toZ R)) (Q (.tup [ZnK i g c (.s 1 4 R []), I 0])) (Q (.tup [ZnK 0 0 0 nilD, I 1100]))) False) False
  | _ => False
theorem Zn2 : ∀ ds Q, Zmg ds Q → ∃ es, All2 AL ds es ∧ ZsC es Q := fun ds Q h => by
  unfold Zmg at h; split at h
  · obtain ⟨h0, h⟩ := Zaf h
    obtain ⟨a, b, c, d, h, r⟩ := Zlv h
    exact ⟨_, .cons (.agg r h0 rfl) .nil, h⟩
  · exact h.elim
theorem Zr9 : Zad Tryz.prog 51 Zmg := Zpe Zuy Zn2
def Zto : Inl := inlM Tryz.prog [(50, Zqg), (51, Zmg), (27, sRMm)] [] [] Tryz.f21
end

section
open Go Go.Proofs
theorem ZvB (h : Mh) (ss : List SesD) (at' : Int) (K : DV → Prop) : (ask Tryz.prog [(27, sAtD [.agg (macL 0 h ss)] (B (mmay h ss)))] Tryz.f55 [.agg (macL 0 h ss), I at'] K) = ([DV.agg (macL (0) h ss)] = [DV.agg (macL (0) h ss)] ∧ bif mmay h ss then bif decide (at' ≥ 0) then K (DV.c (D.v (Value.bool (decide (at' < @Nat.cast Int _ (List.length (List.map (sesL (0)) ss))))))) else K (DV.c (D.v (Value.bool false))) else K (DV.c (D.v (Value.bool false)))) := by kernel_rfl
theorem gRM : Goes Tryz.prog 27 := Zao Tryz.func27 (by kernel_rfl) rfl
theorem Zts (h : Mh) (ss : List SesD) (i : Int) (hok : okM h ss = true) : CT Tryz.prog 55 [.agg (macL 0 h ss), I i] (B (Zcc h ss i)) := by
  refine ct_s (.cons (oAtD gRM (cRM h ss hok) rfl rfl) .nil) mixed Tryz.func55 rfl rfl rfl ?_
  rw [ZvB]
  refine ⟨rfl, ?_⟩
  unfold Zcc
  rw [List.length_map]
  simp only [bifK]
def ZsD : Spec := fun ds Q => match ds with
  | [d, e] => macA d fun h ss => inA e fun i => cond (okM h ss) (Q (B (Zcc h ss i))) False
  | _ => False
theorem Zwi : Zad Tryz.prog 55 ZsD := o_al Tryz.func55 (by kernel_rfl) rfl fun ds Q h => by
  unfold ZsD at h; split at h
  · obtain ⟨m, ss, h, r⟩ := ZcI h
    obtain ⟨i, h, rfl⟩ := Zmq h
    obtain ⟨h1, h2⟩ := Zaf h
    exact ⟨_, _, .cons r (.cons (.refl _) .nil), Zts m ss i h1, rfl, rfl, h2⟩
  · exact h.elim
def iRtl : Inl := inlM Tryz.prog [] [] [] Tryz.f57
theorem ZoE : Zbi Tryz.prog 57 iRtl := Zbn .nil .nil .nil mixed Tryz.func57 rfl (Zao Tryz.func57 (by kernel_rfl) rfl)
end

section
open Go Go.Proofs
def frcI (n : Int) (K : Int → Prop) : Prop := match n with
  | .ofNat m => frcN m fun m => K (.ofNat m)
  | .negSucc m => frcN m fun m => K (.negSucc m)
theorem ZoK {n : Int} {K : Int → Prop} (h : frcI n K) : K n := by
  unfold frcI at h; split at h
  · exact Zbd h
  · exact Zbd h
def Zp6 (f : D → (D → Prop) → Prop) : List D → (List D → Prop) → Prop
  | [], K => K []
  | d :: l, K => f d fun d => Zp6 f l fun l => K (d :: l)
def ZqO (f : D → (D → Prop) → Prop) : List (List D) → (List (List D) → Prop) → Prop
  | [], K => K []
  | r :: l, K => Zp6 f r fun r => ZqO f l fun l => K (r :: l)
def frcX : Nat → D → (D → Prop) → Prop
  | 0, d, K => K d
  | n + 1, d, K => match d with
    | .s t z rows sp => ZqO (frcX n) rows fun rows => ZqO (frcX n) sp fun sp => K (.s t z rows sp)
    | .v x => match x with
      | .int k i => frcI i fun i => K (.v (.int k i))
      | x => K (.v x)
    | d => K d
theorem Ze8 {f : D → (D → Prop) → Prop} (hf : ∀ d K, f d K → K d) : ∀ (l : List D) (K : List D → Prop), Zp6 f l K → K l
  | [], K, h => h
  | d :: l, K, h => Ze8 hf l _ (hf d _ h)
theorem ZeK {f : D → (D → Prop) → Prop} (hf : ∀ d K, f d K → K d) : ∀ (l : List (List D)) (K : List (List D) → Prop), ZqO f l K → K l
  | [], K, h => h
  | r :: l, K, h => ZeK hf l _ (Ze8 hf r _ h)
theorem Zdn : ∀ (n : Nat) (d : D) (K : D → Prop), frcX n d K → K d
  | 0, d, K, h => h
  | n + 1, d, K, h => by
    unfold frcX at h; split at h
    · exact ZeK (Zdn n) _ _ (ZeK (Zdn n) _ _ h)
    · split at h
      · exact ZoK h
      · exact h
    · exact h
def frcV (d : DV) (K : DV → Prop) : Prop := match d with
  | .c d => frcX 3 d fun d => K (.c d)
  | .agg cs => Zp6 (frcX 3) cs fun cs => K (.agg cs)
  | .tup [.c d, e] => frcX 3 d fun d => K (.tup [.c d, e])
  | d => K d
theorem Zpr {d : DV} {K : DV → Prop} (h : frcV d K) : K d := by
  unfold frcV at h; split at h
  · exact Zdn 3 _ _ h
  · exact Ze8 (Zdn 3) _ _ h
  · exact Zdn 3 _ _ h
  · exact h
def sF (s : Spec) : Spec := fun ds Q => s ds fun r => frcV r Q
theorem oF {P : Program} {f : FuncId} {s : Spec} (h : Zad P f s) : Zad P f (sF s) := fun ds Q hq => by
  obtain ⟨hg, r, hc, hp, hf, hq⟩ := h ds _ hq
  exact ⟨hg, r, hc, hp, hf, Zpr hq⟩
def Zeo : Inl := ZeO Tryz.prog [34] (sF sCop)
theorem ZbX : Zbi Tryz.prog 58 Zeo := ZdC (oF ZvX)
def spC : List (FuncId × Spec) := [(55, ZsD), (56, sUp), (146, sUnd), (68, ZcG), (122, sRM), (123, sWMy), (145, sB idm), (164, Ze4), (121, ZgV), (136, sB lab)]
theorem ZbN : SpecsOK Tryz.prog spC := .cons (Zwi) (.cons (oUp2) (.cons (Zs8) (.cons (ZgO) (.cons (oQM) (.cons (oWPy) (.cons (oRId) (.cons (Zi9) (.cons (ZnR) (.cons (Zn6) (.nil))))))))))
def jRT : Inl := inlM Tryz.prog spC [] [] Tryz.f165
theorem ZtG : Zbi Tryz.prog 165 jRT := Zbn ZbN .nil (.nil) mixed Tryz.func165 rfl (Zao Tryz.func165 (by kernel_rfl) rfl)
def ZtT : Inl := inlM Tryz.prog spC [] [(165, jRT)] Tryz.f176
theorem ZqB : Zbi Tryz.prog 176 ZtT := Zbn ZbN .nil (.cons ZtG (.nil)) mixed Tryz.func176 rfl (Zao Tryz.func176 (by kernel_rfl) rfl)
def jWR : Inl := inlM Tryz.prog spC [] [] Tryz.f190
theorem ZtC : Zbi Tryz.prog 190 jWR := Zbn ZbN .nil (.nil) mixed Tryz.func190 rfl (Zao Tryz.func190 (by kernel_rfl) rfl)
def jFW : Inl := inlM Tryz.prog spC [] [] Tryz.f189
theorem Ztp : Zbi Tryz.prog 189 jFW := Zbn ZbN .nil (.nil) mixed Tryz.func189 rfl (Zao Tryz.func189 (by kernel_rfl) rfl)
def jPl : Inl := inlM Tryz.prog spC [] [] Tryz.f141
theorem Zuv : Zbi Tryz.prog 141 jPl := Zbn ZbN .nil (.nil) mixed Tryz.func141 rfl (Zao Tryz.func141 (by kernel_rfl) rfl)
def jWW : Inl := inlM Tryz.prog spC [] [(141, jPl)] Tryz.f87
theorem Zuj : Zbi Tryz.prog 87 jWW := Zbn ZbN .nil (.cons Zuv (.nil)) mixed Tryz.func87 rfl (Zao Tryz.func87 (by kernel_rfl) rfl)
def jWA : Inl := inlM Tryz.prog spC [] [] Tryz.f171
theorem ZtB : Zbi Tryz.prog 171 jWA := Zbn ZbN .nil (.nil) mixed Tryz.func171 rfl (Zao Tryz.func171 (by kernel_rfl) rfl)
def jAdd : Inl := inlM Tryz.prog spC [] [] Tryz.f85
theorem Zr0 : Zbi Tryz.prog 85 jAdd := Zbn ZbN .nil (.nil) mixed Tryz.func85 rfl (Zao Tryz.func85 (by kernel_rfl) rfl)
def Zje : Inl := inlM Tryz.prog spC [] [] Tryz.f83
theorem Zey : Zbi Tryz.prog 83 Zje := Zbn ZbN .nil (.nil) mixed Tryz.func83 rfl (Zao Tryz.func83 (by kernel_rfl) rfl)
def ZnI : Inl := inlM Tryz.prog spC [] [(83, Zje)] Tryz.f167
theorem Zjz : Zbi Tryz.prog 167 ZnI := Zbn ZbN .nil (.cons Zey (.nil)) mixed Tryz.func167 rfl (Zao Tryz.func167 (by kernel_rfl) rfl)
def Zrk : Inl := inlM Tryz.prog spC [] [(167, ZnI), (58, Zeo), (57, iRtl), (176, ZtT), (190, jWR), (189, jFW)] Tryz.f169
theorem ZoO : Zbi Tryz.prog 169 Zrk := Zbn ZbN .nil (.cons Zjz (.cons ZbX (.cons ZoE (.cons ZqB (.cons ZtC (.cons Ztp (.nil))))))) mixed Tryz.func169 rfl (Zao Tryz.func169 (by kernel_rfl) rfl)
def Zq8 : Inl := inlM Tryz.prog spC [] [(83, Zje), (58, Zeo), (57, iRtl), (87, jWW)] Tryz.f39
theorem Zpf : Zbi Tryz.prog 39 Zq8 := Zbn ZbN .nil (.cons Zey (.cons ZbX (.cons ZoE (.cons Zuj (.nil))))) mixed Tryz.func39 rfl (Zao Tryz.func39 (by kernel_rfl) rfl)
def Ztd : Inl := inlM Tryz.prog spC [] [(83, Zje), (58, Zeo), (85, jAdd)] Tryz.f34
theorem Zqt : Zbi Tryz.prog 34 Ztd := Zbn ZbN .nil (.cons Zey (.cons ZbX (.cons Zr0 (.nil)))) mixed Tryz.func34 rfl (Zao Tryz.func34 (by kernel_rfl) rfl)
def jRun : Inl := inlM Tryz.prog spC [] [(83, Zje), (167, ZnI), (169, Zrk), (39, Zq8), (34, Ztd), (58, Zeo), (171, jWA)] Tryz.f128
theorem Zij : Zbi Tryz.prog 128 jRun := Zbn ZbN .nil (.cons Zey (.cons Zjz (.cons ZoO (.cons Zpf (.cons Zqt (.cons ZbX (.cons ZtB (.nil)))))))) mixed Tryz.func128 rfl (Zao Tryz.func128 (by kernel_rfl) rfl)
end

section
open Go Go.Proofs
theorem Zt9 {s : SesD} (hs : ZaA s = true) (h0 : 0 ≤ s.pc) (h1 : s.pc < s.pg.length) : iOK s = true := by
  unfold ZaA at hs
  simp only [Bool.and_eq_true] at hs
  obtain ⟨e, w, _⟩ := Zag hs.1
  have hk : s.pc.toNat < (toZ s.pg).length := by rw [Zak]; omega
  unfold iOK
  rw [e]
  exact Zas (j := 0) (n := 4) w hk (by omega)
theorem ins_eq {s : SesD} (hs : ZaA s = true) : iC s = ((toZ s.pg).getD s.pc.toNat []).getD 0 0 ∧ iA s = ((toZ s.pg).getD s.pc.toNat []).getD 1 0 ∧ iB s = ((toZ s.pg).getD s.pc.toNat []).getD 2 0 ∧ iD s = ((toZ s.pg).getD s.pc.toNat []).getD 3 0 := by
  unfold ZaA at hs
  simp only [Bool.and_eq_true] at hs
  obtain ⟨e, w, _⟩ := Zag hs.1
  have key : ∀ j, hdJ (List.drop j (List.getD s.pg (Int.toNat s.pc) [])) = ((toZ s.pg).getD s.pc.toNat []).getD j 0 := fun j => by
    conv => lhs; rw [e]
    exact ZbL _ _ j
  unfold iC iA iB iD
  refine ⟨key 0, ?_, ?_, ?_⟩
  · rw [← key 1]; simp [List.drop_one]
  · rw [← key 2]; simp [List.tail_drop, ← List.drop_one]
  · rw [← key 3]; simp [List.tail_drop, ← List.drop_one]
theorem ZoQ {s : SesD} (hs : ZaA s = true) {R0 R1 R2 R3 : List (List D)} (hm : Zal R0 R1 R2 R3 s = true) (h1 : s.pc < s.pg.length) : imay (iC s) (iA s) (iB s) (iD s) = true ∧ (iC s = 4 → s.pc < iB s ∧ iB s ≤ s.pg.length) := by
  obtain ⟨e1, e2, e3, e4⟩ := ins_eq hs
  have h0 := (Zes hm).1
  unfold Zal smay at hm
  simp only [Bool.and_eq_true] at hm
  have hp := hm.1.2.2.2.2
  unfold pmay Zb4 at hp
  simp only [Bool.and_eq_true, List.all_eq_true, List.mem_range] at hp
  have := hp.1 s.pc.toNat (by rw [Zak]; omega)
  unfold pI ZtM at this
  rw [← e1, ← e2, ← e3, ← e4] at this
  simp only [Bool.and_eq_true, Bool.not_eq_true', Bool.and_eq_false_iff, Bool.or_eq_false_iff, beq_eq_false_iff_ne, decide_eq_false_iff_not] at this
  refine ⟨this.1, fun h4 => ?_⟩
  rcases this.2 with h | h
  · exact (h h4).elim
  · rw [Zak] at h; omega
theorem ZtY {n : Int} (h0 : 0 ≤ n) (h1 : n ≤ 1000000) : IntKind.wrap IntKind.i64 (n + 1) = n + 1 := by
  obtain ⟨m, rfl⟩ := Int.eq_ofNat_of_zero_le h0
  exact Zam (n := 1) (by omega)
def ZhY (s : SesD) (a : Int) : Int := bif decide (a = 0) then s.r0 else bif decide (a = 1) then s.r1 else bif decide (a = 2) then s.r2 else s.r3
def SesD.regs (s : SesD) (n : N5) (to : Int) : SesD := { s with r0 := n.a, r1 := n.b, r2 := n.c, r3 := n.d, pc := to }
def Zfy (s : SesD) : SesD :=
  bif iC s == 0 then s.regs (setR s.r0 s.r1 s.r2 s.r3 (iA s) (iB s)) (s.pc + 1)
  else bif iC s == 1 then s.regs (addR s.r0 s.r1 s.r2 s.r3 (iA s) (iB s)) (s.pc + 1)
  else bif ZhY s (iA s) == 0 then { s with pc := iB s } else { s with pc := s.pc + 1 }
theorem Zvp (h : Mh) (ss : List SesD) (s : SesD) (i : Int) (t : Bool) (K : DV → Prop) : (askW Tryz.prog (hkF [(80, sAtD [.c (.p 0 (macL 0 h ss) 0), I i, .c (.s 0 1 [[vi 0], [vi 1], [vi 4]] [])] (B t)), (81, sSet), (82, sAdd)] [] [(53, iCpF t h ss i s)]) Tryz.f33 [.agg (macL 0 h ss), I i] K) = ([DV.c (D.p (0) (macL (0) h ss) (0)), I i, DV.c (D.s (0) (1) [[vi (0)], [vi (1)], [vi (4)]] [])] = [DV.c (D.p (0) (macL (0) h ss) (0)), I i, DV.c (D.s (0) (1) [[vi (0)], [vi (1)], [vi (4)]] [])] ∧ bif !t then K (DV.tup [DV.agg mac0, I (1700)]) else t = true ∧ [DV.agg (macL (0) h ss)] = [DV.agg (macL (0) h ss)] ∧ Zdu (List.map (sesL (1)) ss) (Int.toNat i) (1) s ∧ bif decide (0 ≤ i) && decide (i < @Nat.cast Int _ (List.length (List.map (sesL (1)) ss))) then foAt (addN (0) (Int.toNat i)) (Int.toNat i) (List.length (List.map (sesL (1)) ss)) ∧ foAt (addN (0) (Int.toNat i)) (Int.toNat i) (List.length (List.map (sesL (1)) ss)) ∧ bif decide (0 ≤ s.pc) && decide (s.pc < @Nat.cast Int _ (List.length s.pg)) then bif iOK s then foAt (addN (0) (Int.toNat i)) (Int.toNat i) (List.length (List.map (sesL (1)) ss)) ∧ foAt (addN (0) (Int.toNat i)) (Int.toNat i) (List.length (List.map (sesL (1)) ss)) ∧ bif iC s == 0 then foAt (addN (0) (Int.toNat i)) (Int.toNat i) (List.length (List.map (sesL (1)) ss)) ∧ foAt (addN (0) (Int.toNat i)) (Int.toNat i) (List.length (List.map (sesL (1)) ss)) ∧ whole (List.length h.w0) h.w0 ∧ whole (List.length h.w1) h.w1 ∧ whole (List.length h.w2) h.w2 ∧ whole (List.length h.w3) h.w3 ∧ whole (List.length (List.map (sesL (1)) ss)) (List.set (List.map (sesL (1)) ss) (Int.toNat i) (sesL (1) { s with pc := (IntKind.wrap IntKind.i64 (s.pc + 1)), r0 := (setR s.r0 s.r1 s.r2 s.r3 (iA s) (iB s)).a, r1 := (setR s.r0 s.r1 s.r2 s.r3 (iA s) (iB s)).b, r2 := (setR s.r0 s.r1 s.r2 s.r3 (iA s) (iB s)).c, r3 := (setR s.r0 s.r1 s.r2 s.r3 (iA s) (iB s)).d })) ∧ whole (List.length h.tr) h.tr ∧ K (DV.tup [DV.agg (Zbu (1) h (List.set (List.map (sesL (1)) ss) (Int.toNat i) (sesL (1) { s with pc := (IntKind.wrap IntKind.i64 (s.pc + 1)), r0 := (setR s.r0 s.r1 s.r2 s.r3 (iA s) (iB s)).a, r1 := (setR s.r0 s.r1 s.r2 s.r3 (iA s) (iB s)).b, r2 := (setR s.r0 s.r1 s.r2 s.r3 (iA s) (iB s)).c, r3 := (setR s.r0 s.r1 s.r2 s.r3 (iA s) (iB s)).d }))), I (0)]) else bif iC s == 1 then foAt (addN (0) (Int.toNat i)) (Int.toNat i) (List.length (List.map (sesL (1)) ss)) ∧ foAt (addN (0) (Int.toNat i)) (Int.toNat i) (List.length (List.map (sesL (1)) ss)) ∧ whole (List.length h.w0) h.w0 ∧ whole (List.length h.w1) h.w1 ∧ whole (List.length h.w2) h.w2 ∧ whole (List.length h.w3) h.w3 ∧ whole (List.length (List.map (sesL (1)) ss)) (List.set (List.map (sesL (1)) ss) (Int.toNat i) (sesL (1) { s with pc := (IntKind.wrap IntKind.i64 (s.pc + 1)), r0 := (addR s.r0 s.r1 s.r2 s.r3 (iA s) (iB s)).a, r1 := (addR s.r0 s.r1 s.r2 s.r3 (iA s) (iB s)).b, r2 := (addR s.r0 s.r1 s.r2 s.r3 (iA s) (iB s)).c, r3 := (addR s.r0 s.r1 s.r2 s.r3 (iA s) (iB s)).d })) ∧ whole (List.length h.tr) h.tr ∧ K (DV.tup [DV.agg (Zbu (1) h (List.set (List.map (sesL (1)) ss) (Int.toNat i) (sesL (1) { s with pc := (IntKind.wrap IntKind.i64 (s.pc + 1)), r0 := (addR s.r0 s.r1 s.r2 s.r3 (iA s) (iB s)).a, r1 := (addR s.r0 s.r1 s.r2 s.r3 (iA s) (iB s)).b, r2 := (addR s.r0 s.r1 s.r2 s.r3 (iA s) (iB s)).c, r3 := (addR s.r0 s.r1 s.r2 s.r3 (iA s) (iB s)).d }))), I (0)]) else bif decide (iA s = 0) then foAt (addN (0) (Int.toNat i)) (Int.toNat i) (List.length (List.map (sesL (1)) ss)) ∧ bif s.r0 == 0 then foAt (addN (0) (Int.toNat i)) (Int.toNat i) (List.length (List.map (sesL (1)) ss)) ∧ whole (List.length h.w0) h.w0 ∧ whole (List.length h.w1) h.w1 ∧ whole (List.length h.w2) h.w2 ∧ whole (List.length h.w3) h.w3 ∧ whole (List.length (List.map (sesL (1)) ss)) (List.set (List.map (sesL (1)) ss) (Int.toNat i) (sesL (1) { s with pc := (iB s) })) ∧ whole (List.length h.tr) h.tr ∧ K (DV.tup [DV.agg (Zbu (1) h (List.set (List.map (sesL (1)) ss) (Int.toNat i) (sesL (1) { s with pc := (iB s) }))), I (0)]) else whole (List.length h.w0) h.w0 ∧ whole (List.length h.w1) h.w1 ∧ whole (List.length h.w2) h.w2 ∧ whole (List.length h.w3) h.w3 ∧ whole (List.length (List.map (sesL (1)) ss)) (List.set (List.map (sesL (1)) ss) (Int.toNat i) (sesL (1) { s with pc := (IntKind.wrap IntKind.i64 (s.pc + 1)) })) ∧ whole (List.length h.tr) h.tr ∧ K (DV.tup [DV.agg (Zbu (1) h (List.set (List.map (sesL (1)) ss) (Int.toNat i) (sesL (1) { s with pc := (IntKind.wrap IntKind.i64 (s.pc + 1)) }))), I (0)]) else bif decide (iA s = 1) then foAt (addN (0) (Int.toNat i)) (Int.toNat i) (List.length (List.map (sesL (1)) ss)) ∧ bif s.r1 == 0 then foAt (addN (0) (Int.toNat i)) (Int.toNat i) (List.length (List.map (sesL (1)) ss)) ∧ whole (List.length h.w0) h.w0 ∧ whole (List.length h.w1) h.w1 ∧ whole (List.length h.w2) h.w2 ∧ whole (List.length h.w3) h.w3 ∧ whole (List.length (List.map (sesL (1)) ss)) (List.set (List.map (sesL (1)) ss) (Int.toNat i) (sesL (1) { s with pc := (iB s) })) ∧ whole (List.length h.tr) h.tr ∧ K (DV.tup [DV.agg (Zbu (1) h (List.set (List.map (sesL (1)) ss) (Int.toNat i) (sesL (1) { s with pc := (iB s) }))), I (0)]) else whole (List.length h.w0) h.w0 ∧ whole (List.length h.w1) h.w1 ∧ whole (List.length h.w2) h.w2 ∧ whole (List.length h.w3) h.w3 ∧ whole (List.length (List.map (sesL (1)) ss)) (List.set (List.map (sesL (1)) ss) (Int.toNat i) (sesL (1) { s with pc := (IntKind.wrap IntKind.i64 (s.pc + 1)) })) ∧ whole (List.length h.tr) h.tr ∧ K (DV.tup [DV.agg (Zbu (1) h (List.set (List.map (sesL (1)) ss) (Int.toNat i) (sesL (1) { s with pc := (IntKind.wrap IntKind.i64 (s.pc + 1)) }))), I (0)]) else bif decide (iA s = 2) then foAt (addN (0) (Int.toNat i)) (Int.toNat i) (List.length (List.map (sesL (1)) ss)) ∧ bif s.r2 == 0 then foAt (addN (0) (Int.toNat i)) (Int.toNat i) (List.length (List.map (sesL (1)) ss)) ∧ whole (List.length h.w0) h.w0 ∧ whole (List.length h.w1) h.w1 ∧ whole (List.length h.w2) h.w2 ∧ whole (List.length h.w3) h.w3 ∧ whole (List.length (List.map (sesL (1)) ss)) (List.set (List.map (sesL (1)) ss) (Int.toNat i) (sesL (1) { s with pc := (iB s) })) ∧ whole (List.length h.tr) h.tr ∧ K (DV.tup [DV.agg (Zbu (1) h (List.set (List.map (sesL (1)) ss) (Int.toNat i) (sesL (1) { s with pc := (iB s) }))), I (0)]) else whole (List.length h.w0) h.w0 ∧ whole (List.length h.w1) h.w1 ∧ whole (List.length h.w2) h.w2 ∧ whole (List.length h.w3) h.w3 ∧ whole (List.length (List.map (sesL (1)) ss)) (List.set (List.map (sesL (1)) ss) (Int.toNat i) (sesL (1) { s with pc := (IntKind.wrap IntKind.i64 (s.pc + 1)) })) ∧ whole (List.length h.tr) h.tr ∧ K (DV.tup [DV.agg (Zbu (1) h (List.set (List.map (sesL (1)) ss) (Int.toNat i) (sesL (1) { s with pc := (IntKind.wrap IntKind.i64 (s.pc + 1)) }))), I (0)]) else bif decide (iA s = 3) then foAt (addN (0) (Int.toNat i)) (Int.toNat i) (List.length (List.map (sesL (1)) ss)) ∧ bif s.r3 == 0 then foAt (addN (0) (Int.toNat i)) (Int.toNat i) (List.length (List.map (sesL (1)) ss)) ∧ whole (List.length h.w0) h.w0 ∧ whole (List.length h.w1) h.w1 ∧ whole (List.length h.w2) h.w2 ∧ whole (List.length h.w3) h.w3 ∧ whole (List.length (List.map (sesL (1)) ss)) (List.set (List.map (sesL (1)) ss) (Int.toNat i) (sesL (1) { s with pc := (iB s) })) ∧ whole (List.length h.tr) h.tr ∧ K (DV.tup [DV.agg (Zbu (1) h (List.set (List.map (sesL (1)) ss) (Int.toNat i) (sesL (1) { s with pc := (iB s) }))), I (0)]) else whole (List.length h.w0) h.w0 ∧ whole (List.length h.w1) h.w1 ∧ whole (List.length h.w2) h.w2 ∧ whole (List.length h.w3) h.w3 ∧ whole (List.length (List.map (sesL (1)) ss)) (List.set (List.map (sesL (1)) ss) (Int.toNat i) (sesL (1) { s with pc := (IntKind.wrap IntKind.i64 (s.pc + 1)) })) ∧ whole (List.length h.tr) h.tr ∧ K (DV.tup [DV.agg (Zbu (1) h (List.set (List.map (sesL (1)) ss) (Int.toNat i) (sesL (1) { s with pc := (IntKind.wrap IntKind.i64 (s.pc + 1)) }))), I (0)]) else False else False else False else False) := by kernel_rfl
theorem Zrb {p : Int → Bool} {h : Mh} {ss : List SesD} (i : Int) (hok : okM h ss = true) : mAt p h ss i = true → smM h ss = true ∧ ss.length ≤ 4 := fun hm => by
  unfold mAt at hm
  rw [Bool.and_eq_true] at hm
  exact ZjI i hok hm.1
theorem Zid {p : Int → Bool} {h : Mh} {ss : List SesD} {i : Int} (hok : okM h ss = true) (hm : mAt p h ss i = true) : ∃ s, Foc h ss i s ∧ s.st = 0 ∧ 0 ≤ s.pc ∧ s.pc < s.pg.length ∧ s.pg.length ≤ 16 ∧ p (iC s) = true := by
  unfold mAt at hm
  rw [Bool.and_eq_true] at hm
  obtain ⟨s, f⟩ := foc hok hm.1
  have h2 := hm.2
  rw [f.at'] at h2
  simp only [atS, Bool.and_eq_true, decide_eq_true_eq, beq_iff_eq] at h2
  refine ⟨s, f, h2.1, (Zes f.may).1, h2.2.1, ?_, ?_⟩
  · have := f.may
    unfold Zal smay at this
    simp only [Bool.and_eq_true] at this
    have := Zif this.1.2.2.2.2
    rwa [Zak] at this
  · have := h2.2.2
    unfold Zl2 at this
    unfold iC
    rw [List.drop_zero]; exact this
theorem ZoM {a b c x : Int} (h : has3 a b c x = true) : x = a ∨ x = b ∨ x = c := by
  unfold has3 at h
  cases h1 : x == a
  · cases h2 : x == b
    · cases h3 : x == c
      · simp [h1, h2, h3] at h
      · exact .inr (.inr (by simpa using h3))
    · exact .inr (.inl (by simpa using h2))
  · exact .inl (by simpa using h1)
theorem Zs1 (h : Mh) (ss : List SesD) (i : Int) (hok : okM h ss = true) : CT Tryz.prog 33 [.agg (macL 0 h ss), I i] (bif mAt (has3 0 1 4) h ss i then macR h (ss.set i.toNat (Zfy (ss.getD i.toNat default))) 0 else macE 1700) := by
  refine ZnL (.cons (oAtD gAt (cAt3 h ss i 0 1 4 hok) rfl rfl) (.cons ZtI (.cons Zu7 .nil))) .nil (.cons (Zsx i (ss.getD i.toNat default) (Zrb (p := has3 0 1 4) i hok)) .nil) mixed Tryz.func33 rfl rfl rfl ?_
  rw [Zvp]
  refine ⟨⟨rfl, ?_⟩⟩
  cases hm : mAt (has3 0 1 4) h ss i with
  | false => exact Zqh 1700
  | true =>
    obtain ⟨s, f, hst, hp0, hp1, hp2, hcode⟩ := Zid hok hm
    rw [f.getD]
    refine ⟨rfl, rfl, f.row, ?_⟩
    have hpc : (decide (0 ≤ s.pc) && decide (s.pc < @Nat.cast Int _ (List.length s.pg))) = true := by rw [decide_eq_true hp0, decide_eq_true hp1]; rfl
    have hw : IntKind.wrap IntKind.i64 (s.pc + 1) = s.pc + 1 := ZtY hp0 (by omega)
    obtain ⟨hmay, hz⟩ := ZoQ f.ok f.may hp1
    simp only [f.ix, cond_true, f.foAt, true_and, hpc, Zt9 f.ok hp0 hp1, hw]
    have fin : ∀ s', whole (List.length h.w0) h.w0 ∧ whole (List.length h.w1) h.w1 ∧ whole (List.length h.w2) h.w2 ∧ whole (List.length h.w3) h.w3 ∧ whole (List.length (List.map (sesL 1) ss)) (List.set (List.map (sesL 1) ss) (Int.toNat i) (sesL 1 s')) ∧ whole (List.length h.tr) h.tr ∧ AL (DV.tup [DV.agg (Zbu 1 h (List.set (List.map (sesL 1) ss) (Int.toNat i) (sesL 1 s'))), I 0]) (macR h (ss.set i.toNat s') 0) := fun s' => ⟨f.ow0, f.ow1, f.ow2, f.ow3, f.oss _ _, f.otr, Zoo _ _ _ _ _⟩
    unfold Zfy
    cases h0 : iC s == 0
    · cases h1 : iC s == 1
      · have h4 : iC s = 4 := by
          rcases ZoM hcode with h | h | h
          · rw [h] at h0; cases h0
          · rw [h] at h1; cases h1
          · exact h
        have hA : iA s = 0 ∨ iA s = 1 ∨ iA s = 2 ∨ iA s = 3 := by
          unfold imay at hmay
          rw [h4] at hmay
          have : lab (iA s) = true := by simpa [Bool.and_eq_true] using (by simp at hmay; exact hmay.1 : lab (iA s) = true)
          exact ZbI this
        unfold ZhY
        rcases hA with e | e | e | e <;> rw [e] <;> simp only [Int.reduceEq, decide_true, decide_false, cond_true, cond_false] <;> first
          | (cases s.r0 == 0 <;> exact fin _)
          | (cases s.r1 == 0 <;> exact fin _)
          | (cases s.r2 == 0 <;> exact fin _)
          | (cases s.r3 == 0 <;> exact fin _)
      · exact fin _
    · exact fin _
end

section
open Go Go.Proofs
theorem Foc.fo0 {h : Mh} {ss : List SesD} {i : Int} {s : SesD} (f : Foc h ss i s) : Vm.foAt (Int.toNat i) (Int.toNat i) (List.length (List.map (sesL 1) ss)) := f.foAt
theorem Zt0 {c a b d : Int} (h : imay c a b d = true) (hc : c = 0 ∨ c = 1 ∨ c = 2 ∨ c = 3 ∨ c = 4) : a = 0 ∨ a = 1 ∨ a = 2 ∨ a = 3 := by
  refine ZbI ?_
  unfold imay at h
  rcases hc with rfl | rfl | rfl | rfl | rfl <;> simp at h <;> exact h.1
theorem Zws (s : SesD) : ZhY s 0 = s.r0 := rfl
theorem Zwq (s : SesD) : ZhY s 1 = s.r1 := rfl
theorem Zwr (s : SesD) : ZhY s 2 = s.r2 := rfl
theorem Zwp (s : SesD) : ZhY s 3 = s.r3 := rfl
-- SUB decide (0 ≤ i) && decide (i < @Nat.cast Int _ (List.length (List.map (sesL (1)) ss))) => ixI i ss
-- SUB foAt (addN (0) (Int.toNat i)) (Int.toNat i) (List.length (List.map (sesL (1)) ss)) => foA i ss
-- SUB foAt (Int.toNat i) (Int.toNat i) (List.length (List.map (sesL (1)) ss)) => foB i ss
-- SUB decide (List.length h.tr ≤ List.length h.tr) && (decide ((List.length h.tr + 1) * 32 ≤ 140737488355328) && decide (List.length h.tr + 1 ≤ 9223372036854775807)) => rmT h
-- SUB whole (List.length h.w0) h.w0 => wO h.w0
-- SUB whole (List.length h.w1) h.w1 => wO h.w1
-- SUB whole (List.length h.w2) h.w2 => wO h.w2
-- SUB whole (List.length h.w3) h.w3 => wO h.w3
-- SUB whole (List.length h.tr) h.tr => wO h.tr
-- SUB List.set (List.map (sesL (1)) ss) (Int.toNat i) => stI i ss
-- SUB whole (List.length (List.map (sesL (1)) ss)) => wLs ss
def ixI (i : Int) (ss : List SesD) : Bool := decide (0 ≤ i) && decide (i < @Nat.cast Int _ (List.length (List.map (sesL 1) ss)))
def foA (i : Int) (ss : List SesD) : Prop := foAt (addN 0 (Int.toNat i)) (Int.toNat i) (List.length (List.map (sesL 1) ss))
def foB (i : Int) (ss : List SesD) : Prop := foAt (Int.toNat i) (Int.toNat i) (List.length (List.map (sesL 1) ss))
def rmT (h : Mh) : Bool := decide (List.length h.tr ≤ List.length h.tr) && (decide ((List.length h.tr + 1) * 32 ≤ 140737488355328) && decide (List.length h.tr + 1 ≤ 9223372036854775807))
def wO (R : List (List D)) : Prop := whole (List.length R) R
def stI (i : Int) (ss : List SesD) (r : List D) : List (List D) := List.set (List.map (sesL 1) ss) (Int.toNat i) r
def wLs (ss : List SesD) (R : List (List D)) : Prop := whole (List.length (List.map (sesL 1) ss)) R
theorem ZaX {s : SesD} (h : ZaA s = true) : okZ 4 s.pg = true ∧ okZ 3 s.rd = true ∧ okZ 3 s.wt = true := by
  unfold ZaA at h; simpa [Bool.and_eq_true] using h
end

section
open Go Go.Proofs
theorem j_ok {s : SesD} (hs : ZaA s = true) (h0 : 0 ≤ s.pc) (h1 : s.pc < s.pg.length) {k : Nat} (hk : k < 4) : jOK s k = true := by
  obtain ⟨e, w, _⟩ := Zag (ZaX hs).1
  have hq : s.pc.toNat < (toZ s.pg).length := by rw [Zak]; omega
  unfold jOK
  rw [e]
  exact Zas (j := k) (n := 1) w hq (by omega)
theorem j1 (s : SesD) : jI s 1 = iA s := by unfold jI iA; simp [List.drop_one]
theorem j2 (s : SesD) : jI s 2 = iB s := by unfold jI iB; simp [List.tail_drop, ← List.drop_one]
def runV (s : SesD) : Int := bif (s.st == 0) && decide (s.pc < s.pg.length) then iC s else -1
-- SUB decide (0 ≤ i) && decide (i < @Nat.cast Int _ (List.length (List.map (sesL (1)) ss))) => ixI i ss
-- SUB foAt (addN (0) (Int.toNat i)) (Int.toNat i) (List.length (List.map (sesL (1)) ss)) => foA i ss
-- SUB foAt (Int.toNat i) (Int.toNat i) (List.length (List.map (sesL (1)) ss)) => foB i ss
-- SUB decide (List.length h.tr ≤ List.length h.tr) && (decide ((List.length h.tr + 1) * 32 ≤ 140737488355328) && decide (List.length h.tr + 1 ≤ 9223372036854775807)) => rmT h
-- SUB whole (List.length h.w0) h.w0 => wO h.w0
-- SUB whole (List.length h.w1) h.w1 => wO h.w1
-- SUB whole (List.length h.w2) h.w2 => wO h.w2
-- SUB whole (List.length h.w3) h.w3 => wO h.w3
-- SUB whole (List.length h.tr) h.tr => wO h.tr
-- SUB List.set (List.map (sesL (1)) ss) (Int.toNat i) => stI i ss
-- SUB whole (List.length (List.map (sesL (1)) ss)) => wLs ss
theorem eRun (h : Mh) (ss : List SesD) (i : Int) (K : DV → Prop) : (askW Tryz.prog (hkF [] [] []) Tryz.f83 [.agg (macL 0 h ss), I i] K) = (bif decide (0 ≤ i) && decide (i < @Nat.cast Int _ (List.length (List.map (sesL (0)) ss))) then ∃ s, Zdu (List.map (sesL (0)) ss) (Int.toNat i) (0) s ∧ bif s.st != 0 then K (I (-1)) else bif decide (s.pc ≥ @Nat.cast Int _ (List.length s.pg)) then K (I (-1)) else bif decide (0 ≤ s.pc) && decide (s.pc < @Nat.cast Int _ (List.length s.pg)) then bif jOK s 0 then K (I (iC s)) else False else False else False) := by kernel_rfl
theorem ZuY (h : Mh) (ss : List SesD) (s : SesD) (i c : Int) (t : Bool) (K : DV → Prop) : (askW Tryz.prog (hkF [(55, sAtD [.agg (macL 0 h ss), I i] (B t)), (83, sIf t (sAtD [.agg (macL 0 h ss), I i] (I c))), (84, sSet), (85, sAdd)] [] [(58, iCpF t h ss i s)]) Tryz.f34 [.agg (macL 0 h ss), I i] K) = ([DV.agg (macL (0) h ss), I i] = [DV.agg (macL (0) h ss), I i] ∧ bif !t then K (DV.tup [DV.agg mac0, I (1700)]) else t = true ∧ [DV.agg (macL (0) h ss)] = [DV.agg (macL (0) h ss)] ∧ Zdu (List.map (sesL (1)) ss) (Int.toNat i) (1) s ∧ bif decide (0 ≤ i) && decide (i < @Nat.cast Int _ (List.length (List.map (sesL (0)) ss))) then ∃ s_1, Zdu (List.map (sesL (0)) ss) (Int.toNat i) (0) s_1 ∧ t = true ∧ [DV.agg (macL (0) h ss), I i] = [DV.agg (macL (0) h ss), I i] ∧ bif c == 0 then bif decide (0 ≤ s_1.pc) && decide (s_1.pc < @Nat.cast Int _ (List.length s_1.pg)) then bif jOK s_1 1 then bif decide (0 ≤ s_1.pc) && decide (s_1.pc < @Nat.cast Int _ (List.length s_1.pg)) then bif jOK s_1 2 then bif ixI i ss then foA i ss ∧ bif ixI i ss then foA i ss ∧ wO h.w0 ∧ wO h.w1 ∧ wO h.w2 ∧ wO h.w3 ∧ wLs ss (stI i ss (sesL (1) { s with pc := (IntKind.wrap IntKind.i64 (s_1.pc + 1)), r0 := (setR s_1.r0 s_1.r1 s_1.r2 s_1.r3 (jI s_1 1) (jI s_1 2)).a, r1 := (setR s_1.r0 s_1.r1 s_1.r2 s_1.r3 (jI s_1 1) (jI s_1 2)).b, r2 := (setR s_1.r0 s_1.r1 s_1.r2 s_1.r3 (jI s_1 1) (jI s_1 2)).c, r3 := (setR s_1.r0 s_1.r1 s_1.r2 s_1.r3 (jI s_1 1) (jI s_1 2)).d })) ∧ wO h.tr ∧ K (DV.tup [DV.agg (Zbu (1) h (stI i ss (sesL (1) { s with pc := (IntKind.wrap IntKind.i64 (s_1.pc + 1)), r0 := (setR s_1.r0 s_1.r1 s_1.r2 s_1.r3 (jI s_1 1) (jI s_1 2)).a, r1 := (setR s_1.r0 s_1.r1 s_1.r2 s_1.r3 (jI s_1 1) (jI s_1 2)).b, r2 := (setR s_1.r0 s_1.r1 s_1.r2 s_1.r3 (jI s_1 1) (jI s_1 2)).c, r3 := (setR s_1.r0 s_1.r1 s_1.r2 s_1.r3 (jI s_1 1) (jI s_1 2)).d }))), I (0)]) else False else False else False else False else False else False else bif c == 1 then bif decide (0 ≤ s_1.pc) && decide (s_1.pc < @Nat.cast Int _ (List.length s_1.pg)) then bif jOK s_1 1 then bif decide (0 ≤ s_1.pc) && decide (s_1.pc < @Nat.cast Int _ (List.length s_1.pg)) then bif jOK s_1 2 then bif ixI i ss then foA i ss ∧ bif ixI i ss then foA i ss ∧ wO h.w0 ∧ wO h.w1 ∧ wO h.w2 ∧ wO h.w3 ∧ wLs ss (stI i ss (sesL (1) { s with pc := (IntKind.wrap IntKind.i64 (s_1.pc + 1)), r0 := (addR s_1.r0 s_1.r1 s_1.r2 s_1.r3 (jI s_1 1) (jI s_1 2)).a, r1 := (addR s_1.r0 s_1.r1 s_1.r2 s_1.r3 (jI s_1 1) (jI s_1 2)).b, r2 := (addR s_1.r0 s_1.r1 s_1.r2 s_1.r3 (jI s_1 1) (jI s_1 2)).c, r3 := (addR s_1.r0 s_1.r1 s_1.r2 s_1.r3 (jI s_1 1) (jI s_1 2)).d })) ∧ wO h.tr ∧ K (DV.tup [DV.agg (Zbu (1) h (stI i ss (sesL (1) { s with pc := (IntKind.wrap IntKind.i64 (s_1.pc + 1)), r0 := (addR s_1.r0 s_1.r1 s_1.r2 s_1.r3 (jI s_1 1) (jI s_1 2)).a, r1 := (addR s_1.r0 s_1.r1 s_1.r2 s_1.r3 (jI s_1 1) (jI s_1 2)).b, r2 := (addR s_1.r0 s_1.r1 s_1.r2 s_1.r3 (jI s_1 1) (jI s_1 2)).c, r3 := (addR s_1.r0 s_1.r1 s_1.r2 s_1.r3 (jI s_1 1) (jI s_1 2)).d }))), I (0)]) else False else False else False else False else False else False else bif c == 4 then bif decide (0 ≤ s_1.pc) && decide (s_1.pc < @Nat.cast Int _ (List.length s_1.pg)) then bif jOK s_1 1 then bif decide (jI s_1 1 = 0) then bif s_1.r0 == 0 then bif decide (0 ≤ s_1.pc) && decide (s_1.pc < @Nat.cast Int _ (List.length s_1.pg)) then bif jOK s_1 2 then bif ixI i ss then foA i ss ∧ bif ixI i ss then foA i ss ∧ wO h.w0 ∧ wO h.w1 ∧ wO h.w2 ∧ wO h.w3 ∧ wLs ss (stI i ss (sesL (1) { s with pc := (jI s_1 2), r0 := s_1.r0, r1 := s_1.r1, r2 := s_1.r2, r3 := s_1.r3 })) ∧ wO h.tr ∧ K (DV.tup [DV.agg (Zbu (1) h (stI i ss (sesL (1) { s with pc := (jI s_1 2), r0 := s_1.r0, r1 := s_1.r1, r2 := s_1.r2, r3 := s_1.r3 }))), I (0)]) else False else False else False else False else bif ixI i ss then foA i ss ∧ bif ixI i ss then foA i ss ∧ wO h.w0 ∧ wO h.w1 ∧ wO h.w2 ∧ wO h.w3 ∧ wLs ss (stI i ss (sesL (1) { s with pc := (IntKind.wrap IntKind.i64 (s_1.pc + 1)), r0 := s_1.r0, r1 := s_1.r1, r2 := s_1.r2, r3 := s_1.r3 })) ∧ wO h.tr ∧ K (DV.tup [DV.agg (Zbu (1) h (stI i ss (sesL (1) { s with pc := (IntKind.wrap IntKind.i64 (s_1.pc + 1)), r0 := s_1.r0, r1 := s_1.r1, r2 := s_1.r2, r3 := s_1.r3 }))), I (0)]) else False else False else bif decide (jI s_1 1 = 1) then bif s_1.r1 == 0 then bif decide (0 ≤ s_1.pc) && decide (s_1.pc < @Nat.cast Int _ (List.length s_1.pg)) then bif jOK s_1 2 then bif ixI i ss then foA i ss ∧ bif ixI i ss then foA i ss ∧ wO h.w0 ∧ wO h.w1 ∧ wO h.w2 ∧ wO h.w3 ∧ wLs ss (stI i ss (sesL (1) { s with pc := (jI s_1 2), r0 := s_1.r0, r1 := s_1.r1, r2 := s_1.r2, r3 := s_1.r3 })) ∧ wO h.tr ∧ K (DV.tup [DV.agg (Zbu (1) h (stI i ss (sesL (1) { s with pc := (jI s_1 2), r0 := s_1.r0, r1 := s_1.r1, r2 := s_1.r2, r3 := s_1.r3 }))), I (0)]) else False else False else False else False else bif ixI i ss then foA i ss ∧ bif ixI i ss then foA i ss ∧ wO h.w0 ∧ wO h.w1 ∧ wO h.w2 ∧ wO h.w3 ∧ wLs ss (stI i ss (sesL (1) { s with pc := (IntKind.wrap IntKind.i64 (s_1.pc + 1)), r0 := s_1.r0, r1 := s_1.r1, r2 := s_1.r2, r3 := s_1.r3 })) ∧ wO h.tr ∧ K (DV.tup [DV.agg (Zbu (1) h (stI i ss (sesL (1) { s with pc := (IntKind.wrap IntKind.i64 (s_1.pc + 1)), r0 := s_1.r0, r1 := s_1.r1, r2 := s_1.r2, r3 := s_1.r3 }))), I (0)]) else False else False else bif decide (jI s_1 1 = 2) then bif s_1.r2 == 0 then bif decide (0 ≤ s_1.pc) && decide (s_1.pc < @Nat.cast Int _ (List.length s_1.pg)) then bif jOK s_1 2 then bif ixI i ss then foA i ss ∧ bif ixI i ss then foA i ss ∧ wO h.w0 ∧ wO h.w1 ∧ wO h.w2 ∧ wO h.w3 ∧ wLs ss (stI i ss (sesL (1) { s with pc := (jI s_1 2), r0 := s_1.r0, r1 := s_1.r1, r2 := s_1.r2, r3 := s_1.r3 })) ∧ wO h.tr ∧ K (DV.tup [DV.agg (Zbu (1) h (stI i ss (sesL (1) { s with pc := (jI s_1 2), r0 := s_1.r0, r1 := s_1.r1, r2 := s_1.r2, r3 := s_1.r3 }))), I (0)]) else False else False else False else False else bif ixI i ss then foA i ss ∧ bif ixI i ss then foA i ss ∧ wO h.w0 ∧ wO h.w1 ∧ wO h.w2 ∧ wO h.w3 ∧ wLs ss (stI i ss (sesL (1) { s with pc := (IntKind.wrap IntKind.i64 (s_1.pc + 1)), r0 := s_1.r0, r1 := s_1.r1, r2 := s_1.r2, r3 := s_1.r3 })) ∧ wO h.tr ∧ K (DV.tup [DV.agg (Zbu (1) h (stI i ss (sesL (1) { s with pc := (IntKind.wrap IntKind.i64 (s_1.pc + 1)), r0 := s_1.r0, r1 := s_1.r1, r2 := s_1.r2, r3 := s_1.r3 }))), I (0)]) else False else False else bif decide (jI s_1 1 = 3) then bif s_1.r3 == 0 then bif decide (0 ≤ s_1.pc) && decide (s_1.pc < @Nat.cast Int _ (List.length s_1.pg)) then bif jOK s_1 2 then bif ixI i ss then foA i ss ∧ bif ixI i ss then foA i ss ∧ wO h.w0 ∧ wO h.w1 ∧ wO h.w2 ∧ wO h.w3 ∧ wLs ss (stI i ss (sesL (1) { s with pc := (jI s_1 2), r0 := s_1.r0, r1 := s_1.r1, r2 := s_1.r2, r3 := s_1.r3 })) ∧ wO h.tr ∧ K (DV.tup [DV.agg (Zbu (1) h (stI i ss (sesL (1) { s with pc := (jI s_1 2), r0 := s_1.r0, r1 := s_1.r1, r2 := s_1.r2, r3 := s_1.r3 }))), I (0)]) else False else False else False else False else bif ixI i ss then foA i ss ∧ bif ixI i ss then foA i ss ∧ wO h.w0 ∧ wO h.w1 ∧ wO h.w2 ∧ wO h.w3 ∧ wLs ss (stI i ss (sesL (1) { s with pc := (IntKind.wrap IntKind.i64 (s_1.pc + 1)), r0 := s_1.r0, r1 := s_1.r1, r2 := s_1.r2, r3 := s_1.r3 })) ∧ wO h.tr ∧ K (DV.tup [DV.agg (Zbu (1) h (stI i ss (sesL (1) { s with pc := (IntKind.wrap IntKind.i64 (s_1.pc + 1)), r0 := s_1.r0, r1 := s_1.r1, r2 := s_1.r2, r3 := s_1.r3 }))), I (0)]) else False else False else False else False else False else K (DV.tup [DV.agg mac0, I (1700)]) else False) := by kernel_rfl
theorem Zmo {h : Mh} {ss : List SesD} {i : Int} {s : SesD} (f : Foc h ss i s) : Zdu (List.map (sesL 0) ss) (Int.toNat i) 0 s := ZeD f.at'
theorem Zlp {h : Mh} {ss : List SesD} {i : Int} {s : SesD} (f : Foc h ss i s) : (decide (0 ≤ i) && decide (i < @Nat.cast Int _ (List.length (List.map (sesL 0) ss)))) = true := by
  rw [List.length_map, decide_eq_true f.i0, decide_eq_true f.i1]; rfl
theorem Zri {h : Mh} {ss : List SesD} {i : Int} {s : SesD} (f : Foc h ss i s) : 0 ≤ s.pc ∧ s.pc ≤ s.pg.length ∧ s.pg.length ≤ 16 := by
  obtain ⟨h1, h2⟩ := Zes f.may
  refine ⟨h1, h2, ?_⟩
  have := f.may
  unfold Zal smay at this
  simp only [Bool.and_eq_true] at this
  have := Zif this.1.2.2.2.2
  rwa [Zak] at this
theorem cRun {h : Mh} {ss : List SesD} {i : Int} {s : SesD} (f : Foc h ss i s) : CT Tryz.prog 83 [.agg (macL 0 h ss), I i] (I (runV s)) := by
  refine ZnL .nil .nil .nil mixed Tryz.func83 rfl rfl rfl ?_
  rw [eRun]
  refine ⟨?_⟩
  simp only [Zlp f, cond_true]
  refine ⟨s, Zmo f, ?_⟩
  obtain ⟨h0, h1, h2⟩ := Zri f
  unfold runV
  cases hs : s.st == 0
  · have : (s.st != 0) = true := by unfold bne; rw [hs]; rfl
    simp only [this, cond_true, Bool.false_and, cond_false]; exact AL.refl _
  · have : (s.st != 0) = false := by unfold bne; rw [hs]; rfl
    simp only [this, cond_false, Bool.true_and]
    cases hl : decide (s.pc < @Nat.cast Int _ (List.length s.pg))
    · have := of_decide_eq_false hl
      rw [decide_eq_true (show s.pc ≥ @Nat.cast Int _ (List.length s.pg) by omega)]
      exact AL.refl _
    · have hl' := of_decide_eq_true hl
      rw [decide_eq_false (show ¬ s.pc ≥ @Nat.cast Int _ (List.length s.pg) by omega), decide_eq_true h0, j_ok f.ok h0 hl' (by omega)]
      exact AL.refl _
theorem gRun : Goes Tryz.prog 83 := Zao Tryz.func83 (by kernel_rfl) rfl
theorem Zve : Goes Tryz.prog 55 := Zao Tryz.func55 (by kernel_rfl) rfl
theorem Zwb : Goes Tryz.prog 58 := Zao Tryz.func58 (by kernel_rfl) rfl
theorem Zqe {t : Bool} {h : Mh} {ss : List SesD} (i : Int) (s : SesD) (hl : t = true → smM h ss = true ∧ ss.length ≤ 4) : Zbi Tryz.prog 58 (iCpF t h ss i s) :=
  Zii (Zod _ _) (oIf fun ht => oAtD Zwb (ZtF h ss (hl ht).2 (hl ht).1) (ZlI (hl ht).1) rfl)
theorem ZrK {h : Mh} {ss : List SesD} {i : Int} {s : SesD} (f : Foc h ss i s) (hm : Zcc h ss i = true) (p : Int → Bool) : mAt p h ss i = ((s.st == 0) && (decide (s.pc < s.pg.length) && p (iC s))) := by
  unfold mAt
  rw [hm, f.at']
  unfold atS Zl2 iC
  rw [List.drop_zero]; rfl
theorem oRun (h : Mh) (ss : List SesD) (i : Int) (hok : okM h ss = true) : Zad Tryz.prog 83 (sIf (Zcc h ss i) (sAtD [.agg (macL 0 h ss), I i] (I (runV (ss.getD i.toNat default))))) := oIf fun hm => by
  obtain ⟨s, f⟩ := foc hok hm
  rw [f.getD]
  exact oAtD gRun (cRun f) rfl rfl
theorem Zvm (h : Mh) (ss : List SesD) (i : Int) (hok : okM h ss = true) : CT Tryz.prog 34 [.agg (macL 0 h ss), I i] (bif mAt (has3 0 1 4) h ss i then macR h (ss.set i.toNat (Zfy (ss.getD i.toNat default))) 0 else macE 1700) := by
  refine ZnL (.cons (oAtD Zve (Zts h ss i hok) rfl rfl) (.cons (oRun h ss i hok) (.cons Zux (.cons Zug .nil)))) .nil (.cons (Zqe i (ss.getD i.toNat default) (ZjI i hok)) .nil) mixed Tryz.func34 rfl rfl rfl ?_
  rw [ZuY]
  refine ⟨⟨rfl, ?_⟩⟩
  unfold ixI foA wO stI wLs
  cases hm : Zcc h ss i with
  | false =>
    have e : mAt (has3 0 1 4) h ss i = false := by unfold mAt; rw [hm]; rfl
    rw [e]; exact Zqh 1700
  | true =>
    obtain ⟨s, f⟩ := foc hok hm
    rw [f.getD]
    refine ⟨rfl, rfl, f.row, ?_⟩
    simp only [Zlp f, cond_true]
    refine ⟨s, Zmo f, trivial, trivial, ?_⟩
    obtain ⟨h0, h1, h2⟩ := Zri f
    rw [ZrK f hm]
    have fin : ∀ s', AL (DV.tup [DV.agg (Zbu 1 h (List.set (List.map (sesL 1) ss) (Int.toNat i) (sesL 1 s'))), I 0]) (macR h (ss.set i.toNat s') 0) := fun s' => Zoo _ _ _ _ _
    cases hg : (s.st == 0) && decide (s.pc < s.pg.length) with
    | false =>
      have er : runV s = -1 := by unfold runV; rw [hg]; rfl
      rw [er, ← Bool.and_assoc, hg]
      exact Zqh 1700
    | true =>
      have er : runV s = iC s := by unfold runV; rw [hg]; rfl
      rw [er, ← Bool.and_assoc, hg, Bool.true_and]
      simp only [Bool.and_eq_true, decide_eq_true_eq] at hg
      have hpc : (decide (0 ≤ s.pc) && decide (s.pc < @Nat.cast Int _ (List.length s.pg))) = true := by rw [decide_eq_true h0, decide_eq_true hg.2]; rfl
      have hw : IntKind.wrap IntKind.i64 (s.pc + 1) = s.pc + 1 := ZtY h0 (by omega)
      simp only [f.ix, Zlp f, cond_true, f.foAt, f.fo0, f.ow0, f.ow1, f.ow2, f.ow3, f.otr, f.oss, true_and, hpc, hw, j_ok f.ok h0 hg.2 (show 1 < 4 by omega), j_ok f.ok h0 hg.2 (show 2 < 4 by omega), j1, j2]
      unfold Zfy has3
      cases e0 : iC s == 0
      · cases e1 : iC s == 1
        · cases e4 : iC s == 4
          · exact Zqh 1700
          · have h4 : iC s = 4 := by simpa using e4
            have hA := Zt0 (ZoQ f.ok f.may hg.2).1 (.inr (.inr (.inr (.inr h4))))
            unfold ZhY
            rcases hA with e | e | e | e <;> rw [e] <;> simp only [Int.reduceEq, decide_true, decide_false, cond_true, cond_false] <;> first
              | (cases s.r0 == 0 <;> exact fin _)
              | (cases s.r1 == 0 <;> exact fin _)
              | (cases s.r2 == 0 <;> exact fin _)
              | (cases s.r3 == 0 <;> exact fin _)
        · exact fin _
      · exact fin _
end

section
open Go Go.Proofs
def bB : SesD := ⟨5, 1, 1, [[vN 2, vN 0, vN 0, vN 1], [vN 3, vN 0, vN 1, vN 0]], 0, 0, 0, 0, 0, 0, [], [], 0, 0, 0, 0, 0⟩
def bA0 : SesD := ⟨3, 0, 3, [[vN 2, vN 0, vN 0, vN 0], [vN 1, vN 0, vN 0, vN 0], [vN 3, vN 0, vN 0, vN 0]], 0, 0, 0, 0, 0, 0, [], [], 0, 0, 0, 0, 0⟩
def bH0 : Mh := ⟨[[vN 5, vN 0, vN 0], [vN 6, vN 0, vN 0]], [[vN 7, vN 0, vN 0]], [], [[vN 9, vN 0, vN 0]], 0, 0, 0, 0, 9, []⟩
def bA1 : SesD := ⟨3, 0, 3, [[vN 2, vN 0, vN 0, vN 0], [vN 1, vN 0, vN 0, vN 0], [vN 3, vN 0, vN 0, vN 0]], 0, 1, 5, 0, 0, 0, [[vN 0, vN 0, vN 0]], [], 0, 0, 0, 0, 0⟩
def bH1 : Mh := ⟨[[vN 5, vN 0, vN 0], [vN 6, vN 0, vN 0]], [[vN 7, vN 0, vN 0]], [], [[vN 9, vN 0, vN 0]], 0, 0, 0, 0, 9, [[vN 3, vN 0, vN 0, vN 5]]⟩
def bA2 : SesD := ⟨3, 0, 3, [[vN 2, vN 0, vN 0, vN 0], [vN 1, vN 0, vN 0, vN 0], [vN 3, vN 0, vN 0, vN 0]], 0, 2, 10, 0, 0, 0, [[vN 0, vN 0, vN 0]], [], 0, 0, 0, 0, 0⟩
def bH2 : Mh := ⟨[[vN 5, vN 0, vN 0], [vN 6, vN 0, vN 0]], [[vN 7, vN 0, vN 0]], [], [[vN 9, vN 0, vN 0]], 0, 0, 0, 0, 9, [[vN 3, vN 0, vN 0, vN 5]]⟩
def bA3 : SesD := ⟨3, 0, 3, [[vN 2, vN 0, vN 0, vN 0], [vN 1, vN 0, vN 0, vN 0], [vN 3, vN 0, vN 0, vN 0]], 0, 3, 10, 0, 0, 0, [[vN 0, vN 0, vN 0]], [[vN 0, vN 0, vN 10]], 0, 0, 0, 0, 0⟩
def bH3 : Mh := ⟨[[vN 5, vN 0, vN 0], [vN 6, vN 0, vN 0]], [[vN 7, vN 0, vN 0]], [], [[vN 9, vN 0, vN 0]], 0, 0, 0, 0, 9, [[vN 3, vN 0, vN 0, vN 5], [vN 3, vN 0, vN 1, vN 10]]⟩
def bA4 : SesD := ⟨3, 0, 3, [[vN 2, vN 0, vN 0, vN 0], [vN 1, vN 0, vN 0, vN 0], [vN 3, vN 0, vN 0, vN 0]], 1, 3, 10, 0, 0, 0, [[vN 0, vN 0, vN 0]], [[vN 0, vN 0, vN 10]], 0, 0, 0, 0, 0⟩
def bH4 : Mh := ⟨[[vN 5, vN 0, vN 0], [vN 6, vN 0, vN 0]], [[vN 7, vN 0, vN 0]], [], [[vN 9, vN 0, vN 0]], 0, 0, 0, 0, 9, [[vN 3, vN 0, vN 0, vN 5], [vN 3, vN 0, vN 1, vN 10]]⟩
theorem eSt1 (K : DV → Prop) : (askH Tryz.prog (hkM spC [] [(58, Zeo), (128, jRun)]) Tryz.f79 [.agg [D.s 0 3 [[D.v (Value.int IntKind.i64 5), D.v (Value.int IntKind.i64 0), D.v (Value.int IntKind.i64 0)], [D.v (Value.int IntKind.i64 6), D.v (Value.int IntKind.i64 0), D.v (Value.int IntKind.i64 0)]] [], D.s 0 3 [[D.v (Value.int IntKind.i64 7), D.v (Value.int IntKind.i64 0), D.v (Value.int IntKind.i64 0)]] [], D.s 0 3 [] [], D.s 0 3 [[D.v (Value.int IntKind.i64 9), D.v (Value.int IntKind.i64 0), D.v (Value.int IntKind.i64 0)]] [], D.v (Value.int IntKind.i64 0), D.v (Value.int IntKind.i64 0), D.v (Value.int IntKind.i64 0), D.v (Value.int IntKind.i64 0), D.v (Value.int IntKind.i64 9), D.s 0 17 [[D.v (Value.int IntKind.i64 3), D.v (Value.int IntKind.i64 0), D.v (Value.int IntKind.i64 3), D.s 0 4 [[D.v (Value.int IntKind.i64 2), D.v (Value.int IntKind.i64 0), D.v (Value.int IntKind.i64 0), D.v (Value.int IntKind.i64 0)], [D.v (Value.int IntKind.i64 1), D.v (Value.int IntKind.i64 0), D.v (Value.int IntKind.i64 0), D.v (Value.int IntKind.i64 0)], [D.v (Value.int IntKind.i64 3), D.v (Value.int IntKind.i64 0), D.v (Value.int IntKind.i64 0), D.v (Value.int IntKind.i64 0)]] [], D.v (Value.int IntKind.i64 0), D.v (Value.int IntKind.i64 0), D.v (Value.int IntKind.i64 0), D.v (Value.int IntKind.i64 0), D.v (Value.int IntKind.i64 0), D.v (Value.int IntKind.i64 0), D.s 0 3 [] [], D.s 0 3 [] [], D.v (Value.int IntKind.i64 0), D.v (Value.int IntKind.i64 0), D.v (Value.int IntKind.i64 0), D.v (Value.int IntKind.i64 0), D.v (Value.int IntKind.i64 0)], [D.v (Value.int IntKind.i64 5), D.v (Value.int IntKind.i64 1), D.v (Value.int IntKind.i64 1), D.s 0 4 [[D.v (Value.int IntKind.i64 2), D.v (Value.int IntKind.i64 0), D.v (Value.int IntKind.i64 0), D.v (Value.int IntKind.i64 1)], [D.v (Value.int IntKind.i64 3), D.v (Value.int IntKind.i64 0), D.v (Value.int IntKind.i64 1), D.v (Value.int IntKind.i64 0)]] [], D.v (Value.int IntKind.i64 0), D.v (Value.int IntKind.i64 0), D.v (Value.int IntKind.i64 0), D.v (Value.int IntKind.i64 0), D.v (Value.int IntKind.i64 0), D.v (Value.int IntKind.i64 0), D.s 0 3 [] [], D.s 0 3 [] [], D.v (Value.int IntKind.i64 0), D.v (Value.int IntKind.i64 0), D.v (Value.int IntKind.i64 0), D.v (Value.int IntKind.i64 0), D.v (Value.int IntKind.i64 0)]] [], D.s 0 4 [] []], I 0] K) = (K (DV.tup [DV.agg (Zbu (1) ⟨[[vN (5), vN (0), vN (0)], [vN (6), vN (0), vN (0)]], [[vN (7), vN (0), vN (0)]], [], [[vN (9), vN (0), vN (0)]], (0), (0), (0), (0), (9), [[vN (3), vN (0), vN (0), vN (5)]]⟩ [(sesL (1) ⟨(3), (0), (3), [[vN (2), vN (0), vN (0), vN (0)], [vN (1), vN (0), vN (0), vN (0)], [vN (3), vN (0), vN (0), vN (0)]], (0), (1), (5), (0), (0), (0), [[vN (0), vN (0), vN (0)]], [], (0), (0), (0), (0), (0)⟩), (sesL (1) ⟨(5), (1), (1), [[vN (2), vN (0), vN (0), vN (1)], [vN (3), vN (0), vN (1), vN (0)]], (0), (0), (0), (0), (0), (0), [], [], (0), (0), (0), (0), (0)⟩)]), I (0)])) := by kernel_rfl
theorem cSt1 : CT Tryz.prog 79 [.agg (macL 0 bH0 [bA0, bB]), I 0] (macR bH1 [bA1, bB] 0) := by
  have e : macL 0 bH0 [bA0, bB] = [D.s 0 3 [[D.v (Value.int IntKind.i64 5), D.v (Value.int IntKind.i64 0), D.v (Value.int IntKind.i64 0)], [D.v (Value.int IntKind.i64 6), D.v (Value.int IntKind.i64 0), D.v (Value.int IntKind.i64 0)]] [], D.s 0 3 [[D.v (Value.int IntKind.i64 7), D.v (Value.int IntKind.i64 0), D.v (Value.int IntKind.i64 0)]] [], D.s 0 3 [] [], D.s 0 3 [[D.v (Value.int IntKind.i64 9), D.v (Value.int IntKind.i64 0), D.v (Value.int IntKind.i64 0)]] [], D.v (Value.int IntKind.i64 0), D.v (Value.int IntKind.i64 0), D.v (Value.int IntKind.i64 0), D.v (Value.int IntKind.i64 0), D.v (Value.int IntKind.i64 9), D.s 0 17 [[D.v (Value.int IntKind.i64 3), D.v (Value.int IntKind.i64 0), D.v (Value.int IntKind.i64 3), D.s 0 4 [[D.v (Value.int IntKind.i64 2), D.v (Value.int IntKind.i64 0), D.v (Value.int IntKind.i64 0), D.v (Value.int IntKind.i64 0)], [D.v (Value.int IntKind.i64 1), D.v (Value.int IntKind.i64 0), D.v (Value.int IntKind.i64 0), D.v (Value.int IntKind.i64 0)], [D.v (Value.int IntKind.i64 3), D.v (Value.int IntKind.i64 0), D.v (Value.int IntKind.i64 0), D.v (Value.int IntKind.i64 0)]] [], D.v (Value.int IntKind.i64 0), D.v (Value.int IntKind.i64 0), D.v (Value.int IntKind.i64 0), D.v (Value.int IntKind.i64 0), D.v (Value.int IntKind.i64 0), D.v (Value.int IntKind.i64 0), D.s 0 3 [] [], D.s 0 3 [] [], D.v (Value.int IntKind.i64 0), D.v (Value.int IntKind.i64 0), D.v (Value.int IntKind.i64 0), D.v (Value.int IntKind.i64 0), D.v (Value.int IntKind.i64 0)], [D.v (Value.int IntKind.i64 5), D.v (Value.int IntKind.i64 1), D.v (Value.int IntKind.i64 1), D.s 0 4 [[D.v (Value.int IntKind.i64 2), D.v (Value.int IntKind.i64 0), D.v (Value.int IntKind.i64 0), D.v (Value.int IntKind.i64 1)], [D.v (Value.int IntKind.i64 3), D.v (Value.int IntKind.i64 0), D.v (Value.int IntKind.i64 1), D.v (Value.int IntKind.i64 0)]] [], D.v (Value.int IntKind.i64 0), D.v (Value.int IntKind.i64 0), D.v (Value.int IntKind.i64 0), D.v (Value.int IntKind.i64 0), D.v (Value.int IntKind.i64 0), D.v (Value.int IntKind.i64 0), D.s 0 3 [] [], D.s 0 3 [] [], D.v (Value.int IntKind.i64 0), D.v (Value.int IntKind.i64 0), D.v (Value.int IntKind.i64 0), D.v (Value.int IntKind.i64 0), D.v (Value.int IntKind.i64 0)]] [], D.s 0 4 [] []] := rfl
  rw [e]
  refine ct_m ZbN .nil (.cons ZbX (.cons Zij .nil)) mixed Tryz.func79 rfl rfl rfl ?_
  rw [eSt1]
  exact ⟨rfl⟩
theorem eSt2 (K : DV → Prop) : (askH Tryz.prog (hkM spC [] [(58, Zeo), (128, jRun)]) Tryz.f79 [.agg [D.s 0 3 [[D.v (Value.int IntKind.i64 5), D.v (Value.int IntKind.i64 0), D.v (Value.int IntKind.i64 0)], [D.v (Value.int IntKind.i64 6), D.v (Value.int IntKind.i64 0), D.v (Value.int IntKind.i64 0)]] [], D.s 0 3 [[D.v (Value.int IntKind.i64 7), D.v (Value.int IntKind.i64 0), D.v (Value.int IntKind.i64 0)]] [], D.s 0 3 [] [], D.s 0 3 [[D.v (Value.int IntKind.i64 9), D.v (Value.int IntKind.i64 0), D.v (Value.int IntKind.i64 0)]] [], D.v (Value.int IntKind.i64 0), D.v (Value.int IntKind.i64 0), D.v (Value.int IntKind.i64 0), D.v (Value.int IntKind.i64 0), D.v (Value.int IntKind.i64 9), D.s 0 17 [[D.v (Value.int IntKind.i64 3), D.v (Value.int IntKind.i64 0), D.v (Value.int IntKind.i64 3), D.s 0 4 [[D.v (Value.int IntKind.i64 2), D.v (Value.int IntKind.i64 0), D.v (Value.int IntKind.i64 0), D.v (Value.int IntKind.i64 0)], [D.v (Value.int IntKind.i64 1), D.v (Value.int IntKind.i64 0), D.v (Value.int IntKind.i64 0), D.v (Value.int IntKind.i64 0)], [D.v (Value.int IntKind.i64 3), D.v (Value.int IntKind.i64 0), D.v (Value.int IntKind.i64 0), D.v (Value.int IntKind.i64 0)]] [], D.v (Value.int IntKind.i64 0), D.v (Value.int IntKind.i64 1), D.v (Value.int IntKind.i64 5), D.v (Value.int IntKind.i64 0), D.v (Value.int IntKind.i64 0), D.v (Value.int IntKind.i64 0), D.s 0 3 [[D.v (Value.int IntKind.i64 0), D.v (Value.int IntKind.i64 0), D.v (Value.int IntKind.i64 0)]] [], D.s 0 3 [] [], D.v (Value.int IntKind.i64 0), D.v (Value.int IntKind.i64 0), D.v (Value.int IntKind.i64 0), D.v (Value.int IntKind.i64 0), D.v (Value.int IntKind.i64 0)], [D.v (Value.int IntKind.i64 5), D.v (Value.int IntKind.i64 1), D.v (Value.int IntKind.i64 1), D.s 0 4 [[D.v (Value.int IntKind.i64 2), D.v (Value.int IntKind.i64 0), D.v (Value.int IntKind.i64 0), D.v (Value.int IntKind.i64 1)], [D.v (Value.int IntKind.i64 3), D.v (Value.int IntKind.i64 0), D.v (Value.int IntKind.i64 1), D.v (Value.int IntKind.i64 0)]] [], D.v (Value.int IntKind.i64 0), D.v (Value.int IntKind.i64 0), D.v (Value.int IntKind.i64 0), D.v (Value.int IntKind.i64 0), D.v (Value.int IntKind.i64 0), D.v (Value.int IntKind.i64 0), D.s 0 3 [] [], D.s 0 3 [] [], D.v (Value.int IntKind.i64 0), D.v (Value.int IntKind.i64 0), D.v (Value.int IntKind.i64 0), D.v (Value.int IntKind.i64 0), D.v (Value.int IntKind.i64 0)]] [], D.s 0 4 [[D.v (Value.int IntKind.i64 3), D.v (Value.int IntKind.i64 0), D.v (Value.int IntKind.i64 0), D.v (Value.int IntKind.i64 5)]] []], I 0] K) = (K (DV.tup [DV.agg (Zbu (1) ⟨[[vN (5), vN (0), vN (0)], [vN (6), vN (0), vN (0)]], [[vN (7), vN (0), vN (0)]], [], [[vN (9), vN (0), vN (0)]], (0), (0), (0), (0), (9), [[vN (3), vN (0), vN (0), vN (5)]]⟩ [(sesL (1) ⟨(3), (0), (3), [[vN (2), vN (0), vN (0), vN (0)], [vN (1), vN (0), vN (0), vN (0)], [vN (3), vN (0), vN (0), vN (0)]], (0), (2), (10), (0), (0), (0), [[vN (0), vN (0), vN (0)]], [], (0), (0), (0), (0), (0)⟩), (sesL (1) ⟨(5), (1), (1), [[vN (2), vN (0), vN (0), vN (1)], [vN (3), vN (0), vN (1), vN (0)]], (0), (0), (0), (0), (0), (0), [], [], (0), (0), (0), (0), (0)⟩)]), I (0)])) := by kernel_rfl
theorem cSt2 : CT Tryz.prog 79 [.agg (macL 0 bH1 [bA1, bB]), I 0] (macR bH2 [bA2, bB] 0) := by
  have e : macL 0 bH1 [bA1, bB] = [D.s 0 3 [[D.v (Value.int IntKind.i64 5), D.v (Value.int IntKind.i64 0), D.v (Value.int IntKind.i64 0)], [D.v (Value.int IntKind.i64 6), D.v (Value.int IntKind.i64 0), D.v (Value.int IntKind.i64 0)]] [], D.s 0 3 [[D.v (Value.int IntKind.i64 7), D.v (Value.int IntKind.i64 0), D.v (Value.int IntKind.i64 0)]] [], D.s 0 3 [] [], D.s 0 3 [[D.v (Value.int IntKind.i64 9), D.v (Value.int IntKind.i64 0), D.v (Value.int IntKind.i64 0)]] [], D.v (Value.int IntKind.i64 0), D.v (Value.int IntKind.i64 0), D.v (Value.int IntKind.i64 0), D.v (Value.int IntKind.i64 0), D.v (Value.int IntKind.i64 9), D.s 0 17 [[D.v (Value.int IntKind.i64 3), D.v (Value.int IntKind.i64 0), D.v (Value.int IntKind.i64 3), D.s 0 4 [[D.v (Value.int IntKind.i64 2), D.v (Value.int IntKind.i64 0), D.v (Value.int IntKind.i64 0), D.v (Value.int IntKind.i64 0)], [D.v (Value.int IntKind.i64 1), D.v (Value.int IntKind.i64 0), D.v (Value.int IntKind.i64 0), D.v (Value.int IntKind.i64 0)], [D.v (Value.int IntKind.i64 3), D.v (Value.int IntKind.i64 0), D.v (Value.int IntKind.i64 0), D.v (Value.int IntKind.i64 0)]] [], D.v (Value.int IntKind.i64 0), D.v (Value.int IntKind.i64 1), D.v (Value.int IntKind.i64 5), D.v (Value.int IntKind.i64 0), D.v (Value.int IntKind.i64 0), D.v (Value.int IntKind.i64 0), D.s 0 3 [[D.v (Value.int IntKind.i64 0), D.v (Value.int IntKind.i64 0), D.v (Value.int IntKind.i64 0)]] [], D.s 0 3 [] [], D.v (Value.int IntKind.i64 0), D.v (Value.int IntKind.i64 0), D.v (Value.int IntKind.i64 0), D.v (Value.int IntKind.i64 0), D.v (Value.int IntKind.i64 0)], [D.v (Value.int IntKind.i64 5), D.v (Value.int IntKind.i64 1), D.v (Value.int IntKind.i64 1), D.s 0 4 [[D.v (Value.int IntKind.i64 2), D.v (Value.int IntKind.i64 0), D.v (Value.int IntKind.i64 0), D.v (Value.int IntKind.i64 1)], [D.v (Value.int IntKind.i64 3), D.v (Value.int IntKind.i64 0), D.v (Value.int IntKind.i64 1), D.v (Value.int IntKind.i64 0)]] [], D.v (Value.int IntKind.i64 0), D.v (Value.int IntKind.i64 0), D.v (Value.int IntKind.i64 0), D.v (Value.int IntKind.i64 0), D.v (Value.int IntKind.i64 0), D.v (Value.int IntKind.i64 0), D.s 0 3 [] [], D.s 0 3 [] [], D.v (Value.int IntKind.i64 0), D.v (Value.int IntKind.i64 0), D.v (Value.int IntKind.i64 0), D.v (Value.int IntKind.i64 0), D.v (Value.int IntKind.i64 0)]] [], D.s 0 4 [[D.v (Value.int IntKind.i64 3), D.v (Value.int IntKind.i64 0), D.v (Value.int IntKind.i64 0), D.v (Value.int IntKind.i64 5)]] []] := rfl
  rw [e]
  refine ct_m ZbN .nil (.cons ZbX (.cons Zij .nil)) mixed Tryz.func79 rfl rfl rfl ?_
  rw [eSt2]
  exact ⟨rfl⟩
theorem eSt3 (K : DV → Prop) : (askH Tryz.prog (hkM spC [] [(58, Zeo), (128, jRun)]) Tryz.f79 [.agg [D.s 0 3 [[D.v (Value.int IntKind.i64 5), D.v (Value.int IntKind.i64 0), D.v (Value.int IntKind.i64 0)], [D.v (Value.int IntKind.i64 6), D.v (Value.int IntKind.i64 0), D.v (Value.int IntKind.i64 0)]] [], D.s 0 3 [[D.v (Value.int IntKind.i64 7), D.v (Value.int IntKind.i64 0), D.v (Value.int IntKind.i64 0)]] [], D.s 0 3 [] [], D.s 0 3 [[D.v (Value.int IntKind.i64 9), D.v (Value.int IntKind.i64 0), D.v (Value.int IntKind.i64 0)]] [], D.v (Value.int IntKind.i64 0), D.v (Value.int IntKind.i64 0), D.v (Value.int IntKind.i64 0), D.v (Value.int IntKind.i64 0), D.v (Value.int IntKind.i64 9), D.s 0 17 [[D.v (Value.int IntKind.i64 3), D.v (Value.int IntKind.i64 0), D.v (Value.int IntKind.i64 3), D.s 0 4 [[D.v (Value.int IntKind.i64 2), D.v (Value.int IntKind.i64 0), D.v (Value.int IntKind.i64 0), D.v (Value.int IntKind.i64 0)], [D.v (Value.int IntKind.i64 1), D.v (Value.int IntKind.i64 0), D.v (Value.int IntKind.i64 0), D.v (Value.int IntKind.i64 0)], [D.v (Value.int IntKind.i64 3), D.v (Value.int IntKind.i64 0), D.v (Value.int IntKind.i64 0), D.v (Value.int IntKind.i64 0)]] [], D.v (Value.int IntKind.i64 0), D.v (Value.int IntKind.i64 2), D.v (Value.int IntKind.i64 10), D.v (Value.int IntKind.i64 0), D.v (Value.int IntKind.i64 0), D.v (Value.int IntKind.i64 0), D.s 0 3 [[D.v (Value.int IntKind.i64 0), D.v (Value.int IntKind.i64 0), D.v (Value.int IntKind.i64 0)]] [], D.s 0 3 [] [], D.v (Value.int IntKind.i64 0), D.v (Value.int IntKind.i64 0), D.v (Value.int IntKind.i64 0), D.v (Value.int IntKind.i64 0), D.v (Value.int IntKind.i64 0)], [D.v (Value.int IntKind.i64 5), D.v (Value.int IntKind.i64 1), D.v (Value.int IntKind.i64 1), D.s 0 4 [[D.v (Value.int IntKind.i64 2), D.v (Value.int IntKind.i64 0), D.v (Value.int IntKind.i64 0), D.v (Value.int IntKind.i64 1)], [D.v (Value.int IntKind.i64 3), D.v (Value.int IntKind.i64 0), D.v (Value.int IntKind.i64 1), D.v (Value.int IntKind.i64 0)]] [], D.v (Value.int IntKind.i64 0), D.v (Value.int IntKind.i64 0), D.v (Value.int IntKind.i64 0), D.v (Value.int IntKind.i64 0), D.v (Value.int IntKind.i64 0), D.v (Value.int IntKind.i64 0), D.s 0 3 [] [], D.s 0 3 [] [], D.v (Value.int IntKind.i64 0), D.v (Value.int IntKind.i64 0), D.v (Value.int IntKind.i64 0), D.v (Value.int IntKind.i64 0), D.v (Value.int IntKind.i64 0)]] [], D.s 0 4 [[D.v (Value.int IntKind.i64 3), D.v (Value.int IntKind.i64 0), D.v (Value.int IntKind.i64 0), D.v (Value.int IntKind.i64 5)]] []], I 0] K) = (K (DV.tup [DV.agg (Zbu (1) ⟨[[vN (5), vN (0), vN (0)], [vN (6), vN (0), vN (0)]], [[vN (7), vN (0), vN (0)]], [], [[vN (9), vN (0), vN (0)]], (0), (0), (0), (0), (9), [[vN (3), vN (0), vN (0), vN (5)], [vN (3), vN (0), vN (1), vN (10)]]⟩ [(sesL (1) ⟨(3), (0), (3), [[vN (2), vN (0), vN (0), vN (0)], [vN (1), vN (0), vN (0), vN (0)], [vN (3), vN (0), vN (0), vN (0)]], (0), (3), (10), (0), (0), (0), [[vN (0), vN (0), vN (0)]], [[vN (0), vN (0), vN (10)]], (0), (0), (0), (0), (0)⟩), (sesL (1) ⟨(5), (1), (1), [[vN (2), vN (0), vN (0), vN (1)], [vN (3), vN (0), vN (1), vN (0)]], (0), (0), (0), (0), (0), (0), [], [], (0), (0), (0), (0), (0)⟩)]), I (0)])) := by kernel_rfl
theorem cSt3 : CT Tryz.prog 79 [.agg (macL 0 bH2 [bA2, bB]), I 0] (macR bH3 [bA3, bB] 0) := by
  have e : macL 0 bH2 [bA2, bB] = [D.s 0 3 [[D.v (Value.int IntKind.i64 5), D.v (Value.int IntKind.i64 0), D.v (Value.int IntKind.i64 0)], [D.v (Value.int IntKind.i64 6), D.v (Value.int IntKind.i64 0), D.v (Value.int IntKind.i64 0)]] [], D.s 0 3 [[D.v (Value.int IntKind.i64 7), D.v (Value.int IntKind.i64 0), D.v (Value.int IntKind.i64 0)]] [], D.s 0 3 [] [], D.s 0 3 [[D.v (Value.int IntKind.i64 9), D.v (Value.int IntKind.i64 0), D.v (Value.int IntKind.i64 0)]] [], D.v (Value.int IntKind.i64 0), D.v (Value.int IntKind.i64 0), D.v (Value.int IntKind.i64 0), D.v (Value.int IntKind.i64 0), D.v (Value.int IntKind.i64 9), D.s 0 17 [[D.v (Value.int IntKind.i64 3), D.v (Value.int IntKind.i64 0), D.v (Value.int IntKind.i64 3), D.s 0 4 [[D.v (Value.int IntKind.i64 2), D.v (Value.int IntKind.i64 0), D.v (Value.int IntKind.i64 0), D.v (Value.int IntKind.i64 0)], [D.v (Value.int IntKind.i64 1), D.v (Value.int IntKind.i64 0), D.v (Value.int IntKind.i64 0), D.v (Value.int IntKind.i64 0)], [D.v (Value.int IntKind.i64 3), D.v (Value.int IntKind.i64 0), D.v (Value.int IntKind.i64 0), D.v (Value.int IntKind.i64 0)]] [], D.v (Value.int IntKind.i64 0), D.v (Value.int IntKind.i64 2), D.v (Value.int IntKind.i64 10), D.v (Value.int IntKind.i64 0), D.v (Value.int IntKind.i64 0), D.v (Value.int IntKind.i64 0), D.s 0 3 [[D.v (Value.int IntKind.i64 0), D.v (Value.int IntKind.i64 0), D.v (Value.int IntKind.i64 0)]] [], D.s 0 3 [] [], D.v (Value.int IntKind.i64 0), D.v (Value.int IntKind.i64 0), D.v (Value.int IntKind.i64 0), D.v (Value.int IntKind.i64 0), D.v (Value.int IntKind.i64 0)], [D.v (Value.int IntKind.i64 5), D.v (Value.int IntKind.i64 1), D.v (Value.int IntKind.i64 1), D.s 0 4 [[D.v (Value.int IntKind.i64 2), D.v (Value.int IntKind.i64 0), D.v (Value.int IntKind.i64 0), D.v (Value.int IntKind.i64 1)], [D.v (Value.int IntKind.i64 3), D.v (Value.int IntKind.i64 0), D.v (Value.int IntKind.i64 1), D.v (Value.int IntKind.i64 0)]] [], D.v (Value.int IntKind.i64 0), D.v (Value.int IntKind.i64 0), D.v (Value.int IntKind.i64 0), D.v (Value.int IntKind.i64 0), D.v (Value.int IntKind.i64 0), D.v (Value.int IntKind.i64 0), D.s 0 3 [] [], D.s 0 3 [] [], D.v (Value.int IntKind.i64 0), D.v (Value.int IntKind.i64 0), D.v (Value.int IntKind.i64 0), D.v (Value.int IntKind.i64 0), D.v (Value.int IntKind.i64 0)]] [], D.s 0 4 [[D.v (Value.int IntKind.i64 3), D.v (Value.int IntKind.i64 0), D.v (Value.int IntKind.i64 0), D.v (Value.int IntKind.i64 5)]] []] := rfl
  rw [e]
  refine ct_m ZbN .nil (.cons ZbX (.cons Zij .nil)) mixed Tryz.func79 rfl rfl rfl ?_
  rw [eSt3]
  exact ⟨rfl⟩
theorem eSt4 (K : DV → Prop) : (askH Tryz.prog (hkM spC [] [(58, Zeo), (128, jRun)]) Tryz.f79 [.agg [D.s 0 3 [[D.v (Value.int IntKind.i64 5), D.v (Value.int IntKind.i64 0), D.v (Value.int IntKind.i64 0)], [D.v (Value.int IntKind.i64 6), D.v (Value.int IntKind.i64 0), D.v (Value.int IntKind.i64 0)]] [], D.s 0 3 [[D.v (Value.int IntKind.i64 7), D.v (Value.int IntKind.i64 0), D.v (Value.int IntKind.i64 0)]] [], D.s 0 3 [] [], D.s 0 3 [[D.v (Value.int IntKind.i64 9), D.v (Value.int IntKind.i64 0), D.v (Value.int IntKind.i64 0)]] [], D.v (Value.int IntKind.i64 0), D.v (Value.int IntKind.i64 0), D.v (Value.int IntKind.i64 0), D.v (Value.int IntKind.i64 0), D.v (Value.int IntKind.i64 9), D.s 0 17 [[D.v (Value.int IntKind.i64 3), D.v (Value.int IntKind.i64 0), D.v (Value.int IntKind.i64 3), D.s 0 4 [[D.v (Value.int IntKind.i64 2), D.v (Value.int IntKind.i64 0), D.v (Value.int IntKind.i64 0), D.v (Value.int IntKind.i64 0)], [D.v (Value.int IntKind.i64 1), D.v (Value.int IntKind.i64 0), D.v (Value.int IntKind.i64 0), D.v (Value.int IntKind.i64 0)], [D.v (Value.int IntKind.i64 3), D.v (Value.int IntKind.i64 0), D.v (Value.int IntKind.i64 0), D.v (Value.int IntKind.i64 0)]] [], D.v (Value.int IntKind.i64 0), D.v (Value.int IntKind.i64 3), D.v (Value.int IntKind.i64 10), D.v (Value.int IntKind.i64 0), D.v (Value.int IntKind.i64 0), D.v (Value.int IntKind.i64 0), D.s 0 3 [[D.v (Value.int IntKind.i64 0), D.v (Value.int IntKind.i64 0), D.v (Value.int IntKind.i64 0)]] [], D.s 0 3 [[D.v (Value.int IntKind.i64 0), D.v (Value.int IntKind.i64 0), D.v (Value.int IntKind.i64 10)]] [], D.v (Value.int IntKind.i64 0), D.v (Value.int IntKind.i64 0), D.v (Value.int IntKind.i64 0), D.v (Value.int IntKind.i64 0), D.v (Value.int IntKind.i64 0)], [D.v (Value.int IntKind.i64 5), D.v (Value.int IntKind.i64 1), D.v (Value.int IntKind.i64 1), D.s 0 4 [[D.v (Value.int IntKind.i64 2), D.v (Value.int IntKind.i64 0), D.v (Value.int IntKind.i64 0), D.v (Value.int IntKind.i64 1)], [D.v (Value.int IntKind.i64 3), D.v (Value.int IntKind.i64 0), D.v (Value.int IntKind.i64 1), D.v (Value.int IntKind.i64 0)]] [], D.v (Value.int IntKind.i64 0), D.v (Value.int IntKind.i64 0), D.v (Value.int IntKind.i64 0), D.v (Value.int IntKind.i64 0), D.v (Value.int IntKind.i64 0), D.v (Value.int IntKind.i64 0), D.s 0 3 [] [], D.s 0 3 [] [], D.v (Value.int IntKind.i64 0), D.v (Value.int IntKind.i64 0), D.v (Value.int IntKind.i64 0), D.v (Value.int IntKind.i64 0), D.v (Value.int IntKind.i64 0)]] [], D.s 0 4 [[D.v (Value.int IntKind.i64 3), D.v (Value.int IntKind.i64 0), D.v (Value.int IntKind.i64 0), D.v (Value.int IntKind.i64 5)], [D.v (Value.int IntKind.i64 3), D.v (Value.int IntKind.i64 0), D.v (Value.int IntKind.i64 1), D.v (Value.int IntKind.i64 10)]] []], I 0] K) = (K (DV.tup [DV.agg (Zbu (1) ⟨[[vN (5), vN (0), vN (0)], [vN (6), vN (0), vN (0)]], [[vN (7), vN (0), vN (0)]], [], [[vN (9), vN (0), vN (0)]], (0), (0), (0), (0), (9), [[vN (3), vN (0), vN (0), vN (5)], [vN (3), vN (0), vN (1), vN (10)]]⟩ [(sesL (1) ⟨(3), (0), (3), [[vN (2), vN (0), vN (0), vN (0)], [vN (1), vN (0), vN (0), vN (0)], [vN (3), vN (0), vN (0), vN (0)]], (1), (3), (10), (0), (0), (0), [[vN (0), vN (0), vN (0)]], [[vN (0), vN (0), vN (10)]], (0), (0), (0), (0), (0)⟩), (sesL (1) ⟨(5), (1), (1), [[vN (2), vN (0), vN (0), vN (1)], [vN (3), vN (0), vN (1), vN (0)]], (0), (0), (0), (0), (0), (0), [], [], (0), (0), (0), (0), (0)⟩)]), I (0)])) := by kernel_rfl
theorem cSt4 : CT Tryz.prog 79 [.agg (macL 0 bH3 [bA3, bB]), I 0] (macR bH4 [bA4, bB] 0) := by
  have e : macL 0 bH3 [bA3, bB] = [D.s 0 3 [[D.v (Value.int IntKind.i64 5), D.v (Value.int IntKind.i64 0), D.v (Value.int IntKind.i64 0)], [D.v (Value.int IntKind.i64 6), D.v (Value.int IntKind.i64 0), D.v (Value.int IntKind.i64 0)]] [], D.s 0 3 [[D.v (Value.int IntKind.i64 7), D.v (Value.int IntKind.i64 0), D.v (Value.int IntKind.i64 0)]] [], D.s 0 3 [] [], D.s 0 3 [[D.v (Value.int IntKind.i64 9), D.v (Value.int IntKind.i64 0), D.v (Value.int IntKind.i64 0)]] [], D.v (Value.int IntKind.i64 0), D.v (Value.int IntKind.i64 0), D.v (Value.int IntKind.i64 0), D.v (Value.int IntKind.i64 0), D.v (Value.int IntKind.i64 9), D.s 0 17 [[D.v (Value.int IntKind.i64 3), D.v (Value.int IntKind.i64 0), D.v (Value.int IntKind.i64 3), D.s 0 4 [[D.v (Value.int IntKind.i64 2), D.v (Value.int IntKind.i64 0), D.v (Value.int IntKind.i64 0), D.v (Value.int IntKind.i64 0)], [D.v (Value.int IntKind.i64 1), D.v (Value.int IntKind.i64 0), D.v (Value.int IntKind.i64 0), D.v (Value.int IntKind.i64 0)], [D.v (Value.int IntKind.i64 3), D.v (Value.int IntKind.i64 0), D.v (Value.int IntKind.i64 0), D.v (Value.int IntKind.i64 0)]] [], D.v (Value.int IntKind.i64 0), D.v (Value.int IntKind.i64 3), D.v (Value.int IntKind.i64 10), D.v (Value.int IntKind.i64 0), D.v (Value.int IntKind.i64 0), D.v (Value.int IntKind.i64 0), D.s 0 3 [[D.v (Value.int IntKind.i64 0), D.v (Value.int IntKind.i64 0), D.v (Value.int IntKind.i64 0)]] [], D.s 0 3 [[D.v (Value.int IntKind.i64 0), D.v (Value.int IntKind.i64 0), D.v (Value.int IntKind.i64 10)]] [], D.v (Value.int IntKind.i64 0), D.v (Value.int IntKind.i64 0), D.v (Value.int IntKind.i64 0), D.v (Value.int IntKind.i64 0), D.v (Value.int IntKind.i64 0)], [D.v (Value.int IntKind.i64 5), D.v (Value.int IntKind.i64 1), D.v (Value.int IntKind.i64 1), D.s 0 4 [[D.v (Value.int IntKind.i64 2), D.v (Value.int IntKind.i64 0), D.v (Value.int IntKind.i64 0), D.v (Value.int IntKind.i64 1)], [D.v (Value.int IntKind.i64 3), D.v (Value.int IntKind.i64 0), D.v (Value.int IntKind.i64 1), D.v (Value.int IntKind.i64 0)]] [], D.v (Value.int IntKind.i64 0), D.v (Value.int IntKind.i64 0), D.v (Value.int IntKind.i64 0), D.v (Value.int IntKind.i64 0), D.v (Value.int IntKind.i64 0), D.v (Value.int IntKind.i64 0), D.s 0 3 [] [], D.s 0 3 [] [], D.v (Value.int IntKind.i64 0), D.v (Value.int IntKind.i64 0), D.v (Value.int IntKind.i64 0), D.v (Value.int IntKind.i64 0), D.v (Value.int IntKind.i64 0)]] [], D.s 0 4 [[D.v (Value.int IntKind.i64 3), D.v (Value.int IntKind.i64 0), D.v (Value.int IntKind.i64 0), D.v (Value.int IntKind.i64 5)], [D.v (Value.int IntKind.i64 3), D.v (Value.int IntKind.i64 0), D.v (Value.int IntKind.i64 1), D.v (Value.int IntKind.i64 10)]] []] := rfl
  rw [e]
  refine ct_m ZbN .nil (.cons ZbX (.cons Zij .nil)) mixed Tryz.func79 rfl rfl rfl ?_
  rw [eSt4]
  exact ⟨rfl⟩
theorem ZqV : Zbi Tryz.prog 21 Zto := Zbn (.cons Zuq (.cons Zr9 (.cons oRMm .nil))) .nil .nil mixed Tryz.func21 rfl (Zao Tryz.func21 (by kernel_rfl) rfl)
theorem Zuf (K : DV → Prop) : (askH Tryz.prog (hkM [] [] [(21, Zto)]) Tryz.f36 [] K) = (K (DV.agg [D.s (1) (3) [[vN (5), vN (0), vN (0)], [vN (6), vN (0), vN (0)]] [], D.s (1) (3) [[vN (7), vN (0), vN (0)]] [], D.s (1) (3) [] [], D.s (1) (3) [[vN (9), vN (0), vN (0)]] [], vN (0), vN (0), vN (0), vN (0), vN (9), D.s (1) (17) [[vN (3), vN (0), vN (3), D.s (1) (4) [[vN (2), vN (0), vN (0), vN (0)], [vN (1), vN (0), vN (0), vN (0)], [vN (3), vN (0), vN (0), vN (0)]] [], vN (0), vN (0), vN (0), vN (0), vN (0), vN (0), nilV, nilV, vN (0), vN (0), vN (0), vN (0), vN (0)], [vN (5), vN (1), vN (1), D.s (1) (4) [[vN (2), vN (0), vN (0), vN (1)], [vN (3), vN (0), vN (1), vN (0)]] [], vN (0), vN (0), vN (0), vN (0), vN (0), vN (0), nilV, nilV, vN (0), vN (0), vN (0), vN (0), vN (0)]] [], nilV])) := by kernel_rfl
theorem Ztk : CT Tryz.prog 36 [] (.agg (macL 1 bH0 [bA0, bB])) := by
  refine ZsI .nil .nil (.cons ZqV .nil) mixed Tryz.func36 rfl rfl rfl ?_
  rw [Zuf]
  refine ⟨.aggO ?_⟩
  repeat (first | exact .nil | exact OL.refl _ | exact OL.nil _ | refine .cons ?_ ?_ | refine OL.rows ?_)
end

section
open Go Go.Proofs
def sStp : Spec := fun ds Q => match ds with
  | [d, _] => macA d fun _ ss => match ss with
    | [a, _] => bif a.st == 0 then (bif a.pc == 0 then sAtD [.agg (macL 0 bH0 [bA0, bB]), I 0] (macR bH1 [bA1, bB] 0) ds Q else bif a.pc == 1 then sAtD [.agg (macL 0 bH1 [bA1, bB]), I 0] (macR bH2 [bA2, bB] 0) ds Q else bif a.pc == 2 then sAtD [.agg (macL 0 bH2 [bA2, bB]), I 0] (macR bH3 [bA3, bB] 0) ds Q else sAtD [.agg (macL 0 bH3 [bA3, bB]), I 0] (macR bH4 [bA4, bB] 0) ds Q) else False
    | _ => False
  | _ => False
theorem gStp : Goes Tryz.prog 79 := Zao Tryz.func79 (by kernel_rfl) rfl
theorem oStp : Zad Tryz.prog 79 sStp := fun ds Q h => by
  unfold sStp at h; split at h
  · obtain ⟨m, ss, h, _⟩ := ZcI h
    split at h
    · rename_i a _ _
      cases h1 : a.st == 0
      · rw [h1] at h; exact h.elim
      · rw [h1] at h
        cases h2 : a.pc == 0
        · cases h3 : a.pc == 1
          · cases h4 : a.pc == 2
            · rw [h2, h3, h4] at h; exact oAtD gStp cSt4 rfl rfl _ Q h
            · rw [h2, h3, h4] at h; exact oAtD gStp cSt3 rfl rfl _ Q h
          · rw [h2, h3] at h; exact oAtD gStp cSt2 rfl rfl _ Q h
        · rw [h2] at h; exact oAtD gStp cSt1 rfl rfl _ Q h
    · exact h.elim
  · exact h.elim
def iStp : Inl := ZeO Tryz.prog [34, 3] (sF sStp)
theorem ZrM : Zbi Tryz.prog 79 iStp := ZdC (oF oStp)
def iBeg : Inl := ZeO Tryz.prog [] (sF (sAtD [] (.agg (macL 1 bH0 [bA0, bB]))))
theorem ZjW : Zbi Tryz.prog 36 iBeg := ZdC (oF (oAtD (Zao Tryz.func36 (by kernel_rfl) rfl) Ztk rfl rfl))
theorem Zp7 (K : DV → Prop) : (askH Tryz.prog (hkM [] [] [(36, iBeg), (79, iStp)]) Tryz.f37 [I 0, I 1] K) = (([] : List DV) = [] ∧ [DV.agg (macL (0) bH0 [bA0, bB]), I (0)] = [DV.agg (macL (0) bH0 [bA0, bB]), I (0)] ∧ K (DV.agg [D.s (1) (3) [[D.v (Value.int IntKind.i64 (5)), D.v (Value.int IntKind.i64 (0)), D.v (Value.int IntKind.i64 (0))], [D.v (Value.int IntKind.i64 (6)), D.v (Value.int IntKind.i64 (0)), D.v (Value.int IntKind.i64 (0))]] [], D.s (1) (3) [[D.v (Value.int IntKind.i64 (7)), D.v (Value.int IntKind.i64 (0)), D.v (Value.int IntKind.i64 (0))]] [], D.s (1) (3) [] [], D.s (1) (3) [[D.v (Value.int IntKind.i64 (9)), D.v (Value.int IntKind.i64 (0)), D.v (Value.int IntKind.i64 (0))]] [], D.v (Value.int IntKind.i64 (0)), D.v (Value.int IntKind.i64 (0)), D.v (Value.int IntKind.i64 (0)), D.v (Value.int IntKind.i64 (0)), D.v (Value.int IntKind.i64 (9)), D.s (1) (17) [[D.v (Value.int IntKind.i64 (3)), D.v (Value.int IntKind.i64 (0)), D.v (Value.int IntKind.i64 (3)), D.s (1) (4) [[D.v (Value.int IntKind.i64 (2)), D.v (Value.int IntKind.i64 (0)), D.v (Value.int IntKind.i64 (0)), D.v (Value.int IntKind.i64 (0))], [D.v (Value.int IntKind.i64 (1)), D.v (Value.int IntKind.i64 (0)), D.v (Value.int IntKind.i64 (0)), D.v (Value.int IntKind.i64 (0))], [D.v (Value.int IntKind.i64 (3)), D.v (Value.int IntKind.i64 (0)), D.v (Value.int IntKind.i64 (0)), D.v (Value.int IntKind.i64 (0))]] [], D.v (Value.int IntKind.i64 (0)), D.v (Value.int IntKind.i64 (1)), D.v (Value.int IntKind.i64 (5)), D.v (Value.int IntKind.i64 (0)), D.v (Value.int IntKind.i64 (0)), D.v (Value.int IntKind.i64 (0)), D.s (1) (3) [[D.v (Value.int IntKind.i64 (0)), D.v (Value.int IntKind.i64 (0)), D.v (Value.int IntKind.i64 (0))]] [], D.s (1) (3) [] [], D.v (Value.int IntKind.i64 (0)), D.v (Value.int IntKind.i64 (0)), D.v (Value.int IntKind.i64 (0)), D.v (Value.int IntKind.i64 (0)), D.v (Value.int IntKind.i64 (0))], [D.v (Value.int IntKind.i64 (5)), D.v (Value.int IntKind.i64 (1)), D.v (Value.int IntKind.i64 (1)), D.s (1) (4) [[D.v (Value.int IntKind.i64 (2)), D.v (Value.int IntKind.i64 (0)), D.v (Value.int IntKind.i64 (0)), D.v (Value.int IntKind.i64 (1))], [D.v (Value.int IntKind.i64 (3)), D.v (Value.int IntKind.i64 (0)), D.v (Value.int IntKind.i64 (1)), D.v (Value.int IntKind.i64 (0))]] [], D.v (Value.int IntKind.i64 (0)), D.v (Value.int IntKind.i64 (0)), D.v (Value.int IntKind.i64 (0)), D.v (Value.int IntKind.i64 (0)), D.v (Value.int IntKind.i64 (0)), D.v (Value.int IntKind.i64 (0)), D.s (1) (3) [] [], D.s (1) (3) [] [], D.v (Value.int IntKind.i64 (0)), D.v (Value.int IntKind.i64 (0)), D.v (Value.int IntKind.i64 (0)), D.v (Value.int IntKind.i64 (0)), D.v (Value.int IntKind.i64 (0))]] [], D.s (1) (4) [[D.v (Value.int IntKind.i64 (3)), D.v (Value.int IntKind.i64 (0)), D.v (Value.int IntKind.i64 (0)), D.v (Value.int IntKind.i64 (5))]] []])) := by kernel_rfl
theorem ZqL : CT Tryz.prog 37 [I 0, I 1] (.agg (macL 1 bH1 [bA1, bB])) := by
  refine ct_m .nil .nil (.cons ZjW (.cons ZrM .nil)) mixed Tryz.func37 rfl rfl rfl ?_
  rw [Zp7]
  exact ⟨by repeat (first | exact rfl | refine ⟨rfl, ?_⟩)⟩
end

section
open Go Go.Proofs
theorem eSS (s s' : SesD) (K : DV → Prop) : (askW Tryz.prog (hkF [(77, Ze3), (42, ZeP), (45, ZdR)] [] []) Tryz.f32 [.agg (sesL 0 s), .agg (sesL 0 s')] K) = (bif s.id == s'.id then bif s.lb == s'.lb then bif s.cl == s'.cl then bif okZ (4) s.pg && okZ (4) s'.pg then bif decide (toZ s.pg = toZ s'.pg) then bif s.st == s'.st then bif s.pc == s'.pc then bif eqI [s.r0, s.r1, s.r2, s.r3] [s'.r0, s'.r1, s'.r2, s'.r3] then bif okZ (3) s.rd && okZ (3) s'.rd then bif decide (toZ s.rd = toZ s'.rd) then bif okZ (3) s.wt && okZ (3) s'.wt then bif decide (toZ s.wt = toZ s'.wt) then bif s.at' == s'.at' then bif s.sp == s'.sp then bif s.tr == s'.tr then bif s.rs == s'.rs then K (B (s.to == s'.to)) else K (B false) else K (B false) else K (B false) else K (B false) else K (B false) else False else K (B false) else False else K (B false) else K (B false) else K (B false) else K (B false) else False else K (B false) else K (B false) else K (B false)) := by kernel_rfl
def Zk0 (s s' : SesD) : Bool := bif s.id == s'.id then bif s.lb == s'.lb then bif s.cl == s'.cl then bif decide (toZ s.pg = toZ s'.pg) then bif s.st == s'.st then bif s.pc == s'.pc then bif eqI [s.r0, s.r1, s.r2, s.r3] [s'.r0, s'.r1, s'.r2, s'.r3] then bif decide (toZ s.rd = toZ s'.rd) then bif decide (toZ s.wt = toZ s'.wt) then bif s.at' == s'.at' then bif s.sp == s'.sp then bif s.tr == s'.tr then bif s.rs == s'.rs then s.to == s'.to else false else false else false else false else false else false else false else false else false else false else false else false else false
theorem cSS (s s' : SesD) (h : ZaA s = true) (h' : ZaA s' = true) : CT Tryz.prog 32 [.agg (sesL 0 s), .agg (sesL 0 s')] (B (Zk0 s s')) := by
  refine ZnL (.cons Znp (.cons Zm7 (.cons ZkT .nil))) .nil .nil mixed Tryz.func32 rfl rfl rfl ?_
  rw [eSS]
  refine ⟨?_⟩
  obtain ⟨a1, a2, a3⟩ := ZaX h
  obtain ⟨b1, b2, b3⟩ := ZaX h'
  simp only [a1, a2, a3, b1, b2, b3, Bool.and_self, cond_true, ZvV]
  exact AL.refl _
theorem eqI4 {a b c d a' b' c' d' : Int} : eqI [a, b, c, d] [a', b', c', d'] = true ↔ a = a' ∧ b = b' ∧ c = c' ∧ d = d' := by
  simp only [eqI, Bool.and_eq_true, beq_iff_eq, and_true]
theorem ZnS {p q : Bool} : (bif p then q else false) = true ↔ p = true ∧ q = true := by cases p <;> simp
theorem Zdg {z : Nat} {R S : List (List D)} (h : okZ z R = true) (h' : okZ z S = true) (e : toZ R = toZ S) : R = S := by
  rw [(Zag h).1, (Zag h').1, e]
theorem Zl0 {s s' : SesD} (h : ZaA s = true) (h' : ZaA s' = true) : Zk0 s s' = true ↔ s = s' := by
  obtain ⟨a1, a2, a3⟩ := ZaX h
  obtain ⟨b1, b2, b3⟩ := ZaX h'
  unfold Zk0
  simp only [ZnS, eqI4, beq_iff_eq, decide_eq_true_eq]
  constructor
  · rintro ⟨e0, e1, e2, e3, e4, e5, ⟨e6, e7, e8, e9⟩, e10, e11, e12, e13, e14, e15, e16⟩
    have e3 := Zdg a1 b1 e3
    have e10 := Zdg a2 b2 e10
    have e11 := Zdg a3 b3 e11
    cases s; cases s'
    simp only at *
    subst e0 e1 e2 e3 e4 e5 e6 e7 e8 e9 e10 e11 e12 e13 e14 e15 e16
    rfl
  · rintro rfl; simp
def sSS : Spec := fun ds Q => match ds with
  | [d, e] => sesA d fun s => sesA e fun s' => cond (ZaA s && ZaA s') (Q (B (Zk0 s s'))) False
  | _ => False
theorem oSS : Zad Tryz.prog 32 sSS := o_al Tryz.func32 (by kernel_rfl) rfl fun ds Q h => by
  unfold sSS at h; split at h
  · obtain ⟨s, h, r1⟩ := ZbK h
    obtain ⟨s', h, r2⟩ := ZbK h
    obtain ⟨h1, h2⟩ := Zaf h
    rw [Bool.and_eq_true] at h1
    exact ⟨_, _, .cons r1 (.cons r2 .nil), cSS s s' h1.1 h1.2, rfl, rfl, h2⟩
  · exact h.elim
theorem eSA (R0 R1 R2 R3 S0 S1 S2 S3 : List (List D)) (K : DV → Prop) : (askW Tryz.prog (hkF [(88, ZeV)] [] []) Tryz.f41 [.agg (wsL R0 R1 R2 R3), .agg (wsL S0 S1 S2 S3)] K) = (bif okZ (3) R0 && okZ (3) S0 then bif !decide (toZ R0 = toZ S0) then K (B false) else bif okZ (3) R1 && okZ (3) S1 then bif !decide (toZ R1 = toZ S1) then K (B false) else bif okZ (3) R2 && okZ (3) S2 then bif !decide (toZ R2 = toZ S2) then K (B false) else bif okZ (3) R3 && okZ (3) S3 then bif !decide (toZ R3 = toZ S3) then K (B false) else K (B true) else False else False else False else False) := by kernel_rfl
def Zlh (R0 R1 R2 R3 S0 S1 S2 S3 : List (List D)) : Bool := bif decide (toZ R0 = toZ S0) then bif decide (toZ R1 = toZ S1) then bif decide (toZ R2 = toZ S2) then bif decide (toZ R3 = toZ S3) then true else false else false else false else false
theorem cSA (R0 R1 R2 R3 S0 S1 S2 S3 : List (List D)) (h : okA R0 R1 R2 R3 = true) (h' : okA S0 S1 S2 S3 = true) : CT Tryz.prog 41 [.agg (wsL R0 R1 R2 R3), .agg (wsL S0 S1 S2 S3)] (B (Zlh R0 R1 R2 R3 S0 S1 S2 S3)) := by
  refine ZnL (.cons Zm6 .nil) .nil .nil mixed Tryz.func41 rfl rfl rfl ?_
  rw [eSA]
  refine ⟨?_⟩
  obtain ⟨a0, a1, a2, a3⟩ := ZbV h
  obtain ⟨b0, b1, b2, b3⟩ := ZbV h'
  simp only [a0, a1, a2, a3, b0, b1, b2, b3, Bool.and_self, cond_true, Zs3]
  exact AL.refl _
theorem Zqs {R0 R1 R2 R3 S0 S1 S2 S3 : List (List D)} (h : okA R0 R1 R2 R3 = true) (h' : okA S0 S1 S2 S3 = true) : Zlh R0 R1 R2 R3 S0 S1 S2 S3 = true ↔ R0 = S0 ∧ R1 = S1 ∧ R2 = S2 ∧ R3 = S3 := by
  obtain ⟨a0, a1, a2, a3⟩ := ZbV h
  obtain ⟨b0, b1, b2, b3⟩ := ZbV h'
  unfold Zlh
  simp only [ZnS, decide_eq_true_eq]
  constructor
  · rintro ⟨e0, e1, e2, e3, _⟩
    exact ⟨Zdg a0 b0 e0, Zdg a1 b1 e1, Zdg a2 b2 e2, Zdg a3 b3 e3⟩
  · rintro ⟨rfl, rfl, rfl, rfl⟩; simp
def sSA : Spec := fun ds Q => match ds with
  | [.agg cs, .agg es] => cond (ZkR cs && Nat.beq cs.length 4 && (ZkR es && Nat.beq es.length 4)) (Zg8 cs fun R0 R1 R2 R3 => Zg8 es fun S0 S1 S2 S3 => cond (okA R0 R1 R2 R3 && okA S0 S1 S2 S3) (Q (B (Zlh R0 R1 R2 R3 S0 S1 S2 S3))) False) False
  | _ => False
theorem oSA : Zad Tryz.prog 41 sSA := o_al Tryz.func41 (by kernel_rfl) rfl fun ds Q h => by
  unfold sSA at h; split at h
  · obtain ⟨h0, h⟩ := Zaf h
    simp only [Bool.and_eq_true] at h0
    obtain ⟨R0, R1, R2, R3, h, r1⟩ := ZcV h
    obtain ⟨S0, S1, S2, S3, h, r2⟩ := ZcV h
    obtain ⟨h1, h2⟩ := Zaf h
    rw [Bool.and_eq_true] at h1
    rw [List.take_of_length_le (Nat.le_of_eq (Zab h0.1.2))] at r1
    rw [List.take_of_length_le (Nat.le_of_eq (Zab h0.2.2))] at r2
    exact ⟨_, _, .cons (.agg r1 h0.1.1 rfl) (.cons (.agg r2 h0.2.1 rfl) .nil), cSA R0 R1 R2 R3 S0 S1 S2 S3 h1.1 h1.2, rfl, rfl, h2⟩
  · exact h.elim
def stSM (h : Mh) (ss : List SesD) (h' : Mh) (ss' : List SesD) (v : Bool) (i : Int) : X := ⟨mkT 62 [(2, .c (.rp 3 0 11 0 0)), (3, .c (.rp 4 0 11 0 0)), (4, ab v), (5, ai i)], [(3, .bx 0 11 ((macL 0 h ss).map C.d)), (4, .bx 0 11 ((macL 0 h' ss').map C.d))], [], []⟩
def Zhv (h : Mh) (ss : List SesD) (h' : Mh) (ss' : List SesD) : Vw := fun y K => wB y 4 fun v => wI y 5 fun i => K (stSM h ss h' ss' v i)
theorem ZjH (h : Mh) (ss : List SesD) (h' : Mh) (ss' : List SesD) : VwOK (Zhv h ss h' ss') := fun y K h => by
  unfold Zhv at h
  obtain ⟨v, h⟩ := Zdr h
  obtain ⟨i, h⟩ := Zcw h
  exact ⟨_, h⟩
theorem rSM (h : Mh) (ss : List SesD) (h' : Mh) (ss' : List SesD) (v : Bool) (i : Int) (N : X → Prop) (E : Exit → X → Prop) : (ZcK Tryz.prog (hkF [(32, sSS)] [] []) Tryz.f24 0 [] [2, 3, 4, 5] [3, 4] (Zhv h ss h' ss') (fun _ => Zhv h ss h' ss') N E (stSM h ss h' ss' v i)) = (bif decide (i < @Nat.cast Int _ (List.length (List.map (sesL (0)) ss))) then bif decide (0 ≤ i) && decide (i < @Nat.cast Int _ (List.length (List.map (sesL (0)) ss))) then ∃ s, Zdu (List.map (sesL (0)) ss) (Int.toNat i) (0) s ∧ bif decide (0 ≤ i) && decide (i < @Nat.cast Int _ (List.length (List.map (sesL (0)) ss'))) then ∃ s_1, Zdu (List.map (sesL (0)) ss') (Int.toNat i) (0) s_1 ∧ bif ZaA s && ZaA s_1 then bif !Zk0 s s_1 then stSM h ss h' ss' false i = stSM h ss h' ss' false i ∧ E Exit.ret (stSM h ss h' ss' false i) else stSM h ss h' ss' v (IntKind.wrap IntKind.i64 (i + 1)) = stSM h ss h' ss' v (IntKind.wrap IntKind.i64 (i + 1)) ∧ N (stSM h ss h' ss' v (IntKind.wrap IntKind.i64 (i + 1))) else False else False else False else stSM h ss h' ss' v i = stSM h ss h' ss' v i ∧ E (Exit.exit (0)) (stSM h ss h' ss' v i)) := by kernel_rfl
def sesN (ss : List SesD) (i : Nat) : SesD := ss.getD i default
def unl (ss ss' : List SesD) (i : Nat) : Bool := !Zk0 (sesN ss i) (sesN ss' i)
def fSM (h : Mh) (ss : List SesD) (h' : Mh) (ss' : List SesD) : LSum := fun Q x => ss.length = ss'.length ∧ Zdf [2, 3, 4, 5] [3, 4] (fun i => stSM h ss h' ss' false i) (fun i => stSM h ss h' ss' false i) ss.length (unl ss ss') .ret (.exit 0) Q x
theorem eSM (h : Mh) (ss : List SesD) (h' : Mh) (ss' : List SesD) (K : DV → Prop) : (askW Tryz.prog (hkFL [(41, sSA), (59, ZdW)] [] [] [(4, fSM h ss h' ss')]) Tryz.f24 [.agg (macL 0 h ss), .agg (macL 0 h' ss')] K) = (bif okA h.w0 h.w1 h.w2 h.w3 && okA h'.w0 h'.w1 h'.w2 h'.w3 then bif !Zlh h.w0 h.w1 h.w2 h.w3 h'.w0 h'.w1 h'.w2 h'.w3 then K (B false) else bif !eqI [h.c0, h.c1, h.c2, h.c3] [h'.c0, h'.c1, h'.c2, h'.c3] then K (B false) else bif h.ce != h'.ce then K (B false) else bif @Nat.cast Int _ (List.length (List.map (sesL (0)) ss)) != @Nat.cast Int _ (List.length (List.map (sesL (0)) ss')) then K (B false) else bif okZ (4) h.tr && okZ (4) h'.tr then bif !decide (toZ h.tr = toZ h'.tr) then K (B false) else List.length ss = List.length ss' ∧ stSM h ss h' ss' false (0) = stSM h ss h' ss' false (0) ∧ (∀ (i : Nat), firstAt (unl ss ss') (List.length ss) i → K (B false)) ∧ (noneTo (unl ss ss') (List.length ss) → K (B true)) else False else False) := by kernel_rfl
theorem ZkV {ss : List SesD} {i t : Nat} (h : i < ss.length) : Zdu (List.map (sesL t) ss) i t (sesN ss i) := ZeD (by unfold sesN; rw [List.getD_eq_getElem?_getD, List.getElem?_eq_getElem h]; rfl)
theorem Zc5 {ss : List SesD} {i : Nat} (h : i < ss.length) : sesN ss i ∈ ss := by
  unfold sesN
  rw [List.getD_eq_getElem?_getD, List.getElem?_eq_getElem h]
  exact List.getElem_mem h
theorem kSM {h : Mh} {ss : List SesD} {h' : Mh} {ss' : List SesD} (hs : okSS ss = true) (hs' : okSS ss' = true) (hn : ss.length ≤ 9223372036854775806) (Q : Exit → X → Prop) (x : X) (hq : fSM h ss h' ss' Q x) : XWP Tryz.prog (.loop (Zaq Tryz.f24 0)) Q x := by
  obtain ⟨hl, hq⟩ := hq
  have q1 := List.all_eq_true.1 hs
  have q2 := List.all_eq_true.1 hs'
  refine Zcb (sw := []) (V := Zhv h ss h' ss') (VE := fun _ => Zhv h ss h' ss') mixed (ZjH h ss h' ss') (fun _ => ZjH h ss h' ss') _ _ _ _ _ _ (fun i hi => ⟨hkF [(32, sSS)] [] [], ZfQ (.cons oSS .nil) .nil .nil, Zai rfl, fun N E h1 h2 => ?_⟩) ⟨hkF [(32, sSS)] [] [], ZfQ (.cons oSS .nil) .nil .nil, Zai rfl, fun N E h1 => ?_⟩ Q x hq
  · rw [rSM]
    have wi : IntKind.wrap IntKind.i64 ((i : Int) + 1) = ((i + 1 : Nat) : Int) := Zam (n := 1) (by omega)
    have hi' : i < ss'.length := by omega
    simp only [List.length_map, Int.ofNat_lt, hi, hi', decide_true, cond_true, Int.natCast_nonneg, Bool.and_self, Int.toNat_natCast, wi]
    refine ⟨sesN ss i, ZkV hi, sesN ss' i, ZkV hi', ?_⟩
    rw [q1 _ (Zc5 hi), q2 _ (Zc5 hi')]
    unfold unl at h1 h2
    generalize Zk0 (sesN ss i) (sesN ss' i) = u at h1 h2 ⊢
    cases u
    · exact ⟨trivial, h1 rfl⟩
    · exact ⟨trivial, h2 rfl⟩
  · rw [rSM]
    simp only [List.length_map, Int.ofNat_lt, Nat.lt_irrefl, decide_false, cond_false, true_and]
    exact h1
def ZpJ (h : Mh) (ss : List SesD) (h' : Mh) (ss' : List SesD) : Bool := Zlh h.w0 h.w1 h.w2 h.w3 h'.w0 h'.w1 h'.w2 h'.w3 && (eqI [h.c0, h.c1, h.c2, h.c3] [h'.c0, h'.c1, h'.c2, h'.c3] && (h.ce == h'.ce && (decide (ss.length = ss'.length) && (decide (toZ h.tr = toZ h'.tr) && !(List.range ss.length).any (unl ss ss')))))
theorem Zqa {ss ss' : List SesD} (hl : ss.length = ss'.length) (h : ∀ i, i < ss.length → sesN ss i = sesN ss' i) : ss = ss' := by
  apply List.ext_getElem hl
  intro i h1 h2
  have := h i h1
  unfold sesN at this
  rwa [List.getD_eq_getElem?_getD, List.getD_eq_getElem?_getD, List.getElem?_eq_getElem h1, List.getElem?_eq_getElem h2] at this
theorem ZpO {h : Mh} {ss : List SesD} {h' : Mh} {ss' : List SesD} (ho : okM h ss = true) (ho' : okM h' ss' = true) : ZpJ h ss h' ss' = true ↔ h = h' ∧ ss = ss' := by
  obtain ⟨a1, a2, a3⟩ := ZbH ho
  obtain ⟨b1, b2, b3⟩ := ZbH ho'
  have q1 := List.all_eq_true.1 a3
  have q2 := List.all_eq_true.1 b3
  unfold ZpJ
  simp only [Bool.and_eq_true, Zqs a1 b1, eqI4, beq_iff_eq, decide_eq_true_eq, Bool.not_eq_true', List.any_eq_false, List.mem_range]
  constructor
  · rintro ⟨⟨e0, e1, e2, e3⟩, ⟨e4, e5, e6, e7⟩, e8, e9, e10, e11⟩
    have e10 := Zdg a2 b2 e10
    refine ⟨?_, Zqa e9 fun i hi => ?_⟩
    · cases h; cases h'
      simp only at *
      subst e0 e1 e2 e3 e4 e5 e6 e7 e8 e10
      rfl
    · have := e11 i hi
      unfold unl at this
      simp only [Bool.not_eq_true, Bool.not_eq_false'] at this
      exact (Zl0 (q1 _ (Zc5 hi)) (q2 _ (Zc5 (by omega)))).1 (by simpa using this)
  · rintro ⟨rfl, rfl⟩
    refine ⟨⟨rfl, rfl, rfl, rfl⟩, ⟨rfl, rfl, rfl, rfl⟩, rfl, rfl, rfl, fun i hi => ?_⟩
    unfold unl
    rw [(Zl0 (q1 _ (Zc5 hi)) (q1 _ (Zc5 hi))).2 rfl]; simp
theorem cSM (h : Mh) (ss : List SesD) (h' : Mh) (ss' : List SesD) (ho : okM h ss = true) (ho' : okM h' ss' = true) (hn : ss.length ≤ 9223372036854775806) : CT Tryz.prog 24 [.agg (macL 0 h ss), .agg (macL 0 h' ss')] (B (ZpJ h ss h' ss')) := by
  obtain ⟨a1, a2, a3⟩ := ZbH ho
  obtain ⟨b1, b2, b3⟩ := ZbH ho'
  refine ZuK (m := [(4, fSM h ss h' ss')]) (.cons oSA (.cons ZkW .nil)) .nil .nil mixed (ZoI (i := 0) (fun j hj _ => by have : j < 1 := hj; omega) (kSM a3 b3 hn)) Tryz.func24 rfl rfl rfl ?_
  rw [eSM]
  refine ⟨?_⟩
  unfold ZpJ
  simp only [a1, a2, b1, b2, Bool.and_self, cond_true, List.length_map]
  cases Zlh h.w0 h.w1 h.w2 h.w3 h'.w0 h'.w1 h'.w2 h'.w3
  · exact AL.refl _
  · cases eqI [h.c0, h.c1, h.c2, h.c3] [h'.c0, h'.c1, h'.c2, h'.c3]
    · exact AL.refl _
    · cases hc : h.ce == h'.ce
      · have : (h.ce != h'.ce) = true := by unfold bne; rw [hc]; rfl
        rw [this]; exact AL.refl _
      · have : (h.ce != h'.ce) = false := by unfold bne; rw [hc]; rfl
        rw [this]
        by_cases hl : ss.length = ss'.length
        · have : (@Nat.cast Int _ (List.length ss) != @Nat.cast Int _ (List.length ss')) = false := by rw [hl]; simp
          rw [this, decide_eq_true hl]
          cases decide (toZ h.tr = toZ h'.tr)
          · exact AL.refl _
          · refine ⟨hl, trivial, fun i hi => ?_, fun hn => ?_⟩
            · rw [hi.b]; exact AL.refl _
            · rw [hn.b]; exact AL.refl _
        · have : (@Nat.cast Int _ (List.length ss) != @Nat.cast Int _ (List.length ss')) = true := by simp; omega
          rw [this, decide_eq_false hl]; exact AL.refl _
end

section
open Go Go.Proofs
def Zum (k : Int) (h : Mh) (s : SesD) : Inl := ZeO Tryz.prog [3, 3] (sF (sAtD [I 0, I k] (.agg (macL 1 h [s, bB]))))
end

section
open Go Go.Proofs
theorem Zox {h : Mh} {ss : List SesD} (hm : smM h ss = true) (j : Nat) {s : SesD} (hs : smS s = true) : smM h (ss.set j s) = true := by
  unfold smM at hm ⊢
  simp only [Bool.and_eq_true] at hm ⊢
  refine ⟨hm.1, hm.2.1, ?_⟩
  rw [List.all_eq_true] at hm ⊢
  intro x hx
  rcases List.mem_or_eq_of_mem_set hx with hx | rfl
  · exact hm.2.2 x hx
  · exact hs
theorem Zmz (s : SesD) : smS (Zfy s) = smS s := by
  unfold Zfy
  cases iC s == 0 <;> cases iC s == 1 <;> cases ZhY s (iA s) == 0 <;> rfl
def sCal : Spec := fun ds Q => match ds with
  | [d, e] => macA d fun h ss => inA e fun i => cond (okM h ss) (bif mAt (has3 0 1 4) h ss i then Q (macR h (ss.set i.toNat (Zfy (ss.getD i.toNat default))) 0) else Q (macE 1700)) False
  | _ => False
theorem Zwj {f : FuncId} {fn : Func} (hf : Tryz.prog.funcs[f]? = some fn) (hn : (fn.name == "runtime.NumGoroutine") = false) (hb : fn.body.isNone = false) (hc : ∀ h ss i, okM h ss = true → CT Tryz.prog f [.agg (macL 0 h ss), I i] (bif mAt (has3 0 1 4) h ss i then macR h (ss.set i.toNat (Zfy (ss.getD i.toNat default))) 0 else macE 1700)) : Zad Tryz.prog f sCal := o_al hf hn hb fun ds Q hq => by
  unfold sCal at hq; split at hq
  · obtain ⟨h, ss, hq, r1⟩ := ZcI hq
    obtain ⟨i, hq, rfl⟩ := Zmq hq
    obtain ⟨ho, hq⟩ := Zaf hq
    have hct := hc h ss i ho
    cases hm : mAt (has3 0 1 4) h ss i with
    | false =>
      rw [hm] at hq hct
      exact ⟨_, _, .cons r1 (.cons (.refl _) .nil), hct, rfl, rfl, hq⟩
    | true =>
      rw [hm] at hq hct
      obtain ⟨hsm, _⟩ := Zrb i ho hm
      obtain ⟨s, f, _⟩ := Zid ho hm
      refine ⟨_, _, .cons r1 (.cons (.refl _) .nil), hct, Zia (Zox hsm _ ?_) 0, rfl, hq⟩
      rw [Zmz, f.getD]
      exact List.all_eq_true.1 (by have := f.sm; unfold smM at this; simp only [Bool.and_eq_true] at this; exact this.2.2) s (List.mem_of_getElem? f.at')
  · exact hq.elim
theorem oCal : Zad Tryz.prog 33 sCal := Zwj Tryz.func33 (by kernel_rfl) rfl Zs1
def iCal : Inl := ZeO Tryz.prog [34, 3] (sF sCal)
theorem ZsN : Zbi Tryz.prog 33 iCal := ZdC (oF oCal)
theorem Zlf : Zbi Tryz.prog 37 (Zum 1 bH1 bA1) := ZdC (oF (oAtD (Zao Tryz.func37 (by kernel_rfl) rfl) ZqL rfl rfl))
theorem Zwc (K : DV → Prop) : (askH Tryz.prog (hkM [(25, sI)] [] [(36, iBeg), (33, iCal), (37, Zum 1 bH1 bA1)]) Tryz.f35 [] K) = ([I (0), I (1)] = [I (0), I (1)] ∧ ([] : List DV) = [] ∧ ([] : List DV) = [] ∧ K (B true)) := by kernel_rfl
theorem ZuZ : CT Tryz.prog 35 [] (B true) := by
  refine ct_m (.cons oNum .nil) .nil (.cons ZjW (.cons ZsN (.cons Zlf .nil))) mixed Tryz.func35 rfl rfl rfl ?_
  rw [Zwc]
  exact ⟨by repeat (first | exact rfl | refine ⟨rfl, ?_⟩)⟩
theorem ZuR : Zad Tryz.prog 35 (sAtD [] (B true)) := oAtD (Zao Tryz.func35 (by kernel_rfl) rfl) ZuZ rfl rfl
end

section
open Go Go.Proofs
theorem Foc.smS {h : Mh} {ss : List SesD} {i : Int} {s : SesD} (f : Foc h ss i s) : Vm.smS s = true :=
  List.all_eq_true.1 (by have := f.sm; unfold smM at this; simp only [Bool.and_eq_true] at this; exact this.2.2) s (List.mem_of_getElem? f.at')
end

section
open Go Go.Proofs
theorem OD.frz {w : World} {G : Nat → Prop} {v : Value} {S G' S' : Nat → Prop} {d e : D} (h : RD d e) (he : e.isOwn = false) (hg : ∀ b, G b → G' b) (hs : ∀ b, S b → G' b) (hv : OD w G v d S) : OD w G' v e S' := by
  refine .r _ _ _ (fun z rows sp q => ?_) (h _ _ _ (hv.read hg hs))
  subst q; cases he
theorem ZvA {d e : D} (h : RD d e) (he : e.isOwn = false) : Frz (.c d) (.c e) := fun w G v S hv => by
  cases hv with
  | c _ _ _ hx => exact .c _ _ _ (hx.frz h he (fun _ => .inl) (fun _ => .inr))
theorem Zof {cs cs' : List D} (h : All2 RD cs cs') (he : cs'.all (fun d => !d.isOwn) = true) : Frz (.agg cs) (.agg cs') := fun w G v S hv => by
  cases hv with
  | agg vs _ _ sub h1 h2 h3 h4 =>
    refine .agg vs cs' _ (fun _ _ => False) (by rw [← h.len]; exact h1) (fun i e hi => ?_) (fun _ _ q => q) (fun _ _ _ q => q.elim)
    obtain ⟨d, g1, g2⟩ := h.get hi
    have a2 := List.all_eq_true.1 he e (List.mem_of_getElem? hi)
    exact (h2 i d g1).frz g2 (by simpa using a2) (fun _ => .inl) (fun b hb => .inr (h3 i b hb))
theorem ZsK {xs ys : List DV} (h : All2 Frz xs ys) : Frz (.tup xs) (.tup ys) := fun w G v S hv => by
  cases hv with
  | tup vs _ _ sub h1 h2 h3 h4 =>
    refine .tup vs ys _ (fun _ _ => False) (by rw [← h.len]; exact h1) (fun i e hi => ?_) (fun _ _ q => q) (fun _ _ _ q => q.elim)
    obtain ⟨d, g1, g2⟩ := h.get hi
    exact (g2 _ _ _ _ (h2 i d g1)).mono (fun b hb => hb.elim .inl fun q => .inr (h3 i b q)) (.refl _ _) (.refl _ _)
theorem ZtL {t t' : Nat} (s : SesD) : All2 RD (sesL t s) (sesL t' s) :=
  .cons (.refl _) (.cons (.refl _) (.cons (.refl _) (.cons .slice (.cons (.refl _) (.cons (.refl _) (.cons (.refl _) (.cons (.refl _) (.cons (.refl _) (.cons (.refl _) (.cons .slice (.cons .slice (.cons (.refl _) (.cons (.refl _) (.cons (.refl _) (.cons (.refl _) (.cons (.refl _) .nil))))))))))))))))
theorem Zrh {t t' : Nat} : ∀ ss : List SesD, All2 (All2 RD) (ss.map (sesL t)) (ss.map (sesL t'))
  | [] => .nil
  | s :: ss => .cons (ZtL s) (Zrh ss)
theorem Zre {t t' : Nat} (h : Mh) (ss : List SesD) : All2 RD (macL t h ss) (macL t' h ss) :=
  .cons .slice (.cons .slice (.cons .slice (.cons .slice (.cons (.refl _) (.cons (.refl _) (.cons (.refl _) (.cons (.refl _) (.cons (.refl _) (.cons (.rows (Zrh ss)) (.cons .slice .nil))))))))))
def macZ (h : Mh) (ss : List SesD) (e : Int) : DV := .tup [.agg (macL 0 h ss), I e]
theorem ZqK (h : Mh) (ss : List SesD) (e : Int) : Frz (macR h ss e) (macZ h ss e) := ZsK (.cons (Zof (Zre h ss) rfl) (.cons (ZvA (.refl _) rfl) .nil))
theorem Foc.smS1 {h : Mh} {ss : List SesD} {i : Int} {s : SesD} (f : Foc h ss i s) {s' : SesD} (hs : Vm.smS s' = true) : smM h (ss.set i.toNat s') = true := Zox f.sm _ hs
theorem gCal : Goes Tryz.prog 33 := Zao Tryz.func33 (by kernel_rfl) rfl
theorem Zvc : Goes Tryz.prog 19 := Zao Tryz.func19 (by kernel_rfl) rfl
end

section
open Go Go.Proofs
def kSes : List KT := [.int, .int, .int, .sl (List.replicate 4 .int) 32, .int, .int, .int, .int, .int, .int, .sl (List.replicate 3 .int) 24, .sl (List.replicate 3 .int) 24, .int, .int, .int, .int, .int]
def kMac : List KT := [.sl (List.replicate 3 .int) 24, .sl (List.replicate 3 .int) 24, .sl (List.replicate 3 .int) 24, .sl (List.replicate 3 .int) 24, .int, .int, .int, .int, .int, .sl kSes 184, .sl (List.replicate 4 .int) 32]
theorem GoodL.i {cs : List KT} {ds : List D} (h : GoodL (.int :: cs) ds) : ∃ n ds', ds = vN n :: ds' ∧ GoodL cs ds' := by
  obtain ⟨d, ds', rfl, h1, h2⟩ := h.cons_inv
  obtain ⟨n, rfl, _⟩ := h1.int_inv
  exact ⟨n, ds', rfl, h2⟩
end

section
open Go Go.Proofs
theorem Zqq {ss : List SesD} {s : SesD} {j : Nat} (h : okSS ss = true) (hs : ZaA s = true) : okSS (ss.set j s) = true := by
  unfold okSS at *
  rw [List.all_eq_true] at *
  intro x hx
  rcases List.mem_or_eq_of_mem_set hx with q | q
  · exact h x q
  · rw [q]; exact hs
end

section
open Go Go.Proofs
theorem GoodL.rb {z b : Nat} {cs : List KT} {ds : List D} (h : GoodL (.sl (List.replicate z .int) b :: cs) ds) : ∃ R ds', ds = .s 0 z R [] :: ds' ∧ okZ z R = true ∧ R.length * b ≤ 140737488351232 ∧ GoodL cs ds' := by
  obtain ⟨d, ds', rfl, h1, h2⟩ := h.cons_inv
  obtain ⟨R, rfl, h3, h4⟩ := h1.rows
  exact ⟨R, ds', rfl, h3, h4, h2⟩
theorem ZvR {r : List D} (h : GoodL kSes r) : ∃ s, r = sesL 0 s ∧ ZaA s = true ∧ smS s = true := by
  unfold kSes at h
  obtain ⟨x0, r0, rfl, g0⟩ := h.i
  obtain ⟨x1, r1, rfl, g1⟩ := g0.i
  obtain ⟨x2, r2, rfl, g2⟩ := g1.i
  obtain ⟨x3, r3, rfl, o3, bo3, g3⟩ := g2.rb
  obtain ⟨x4, r4, rfl, g4⟩ := g3.i
  obtain ⟨x5, r5, rfl, g5⟩ := g4.i
  obtain ⟨x6, r6, rfl, g6⟩ := g5.i
  obtain ⟨x7, r7, rfl, g7⟩ := g6.i
  obtain ⟨x8, r8, rfl, g8⟩ := g7.i
  obtain ⟨x9, r9, rfl, g9⟩ := g8.i
  obtain ⟨x10, r10, rfl, o10, bo10, g10⟩ := g9.rb
  obtain ⟨x11, r11, rfl, o11, bo11, g11⟩ := g10.rb
  obtain ⟨x12, r12, rfl, g12⟩ := g11.i
  obtain ⟨x13, r13, rfl, g13⟩ := g12.i
  obtain ⟨x14, r14, rfl, g14⟩ := g13.i
  obtain ⟨x15, r15, rfl, g15⟩ := g14.i
  obtain ⟨x16, r16, rfl, g16⟩ := g15.i
  obtain rfl := g16.nil_inv
  refine ⟨⟨x0, x1, x2, x3, x4, x5, x6, x7, x8, x9, x10, x11, x12, x13, x14, x15, x16⟩, rfl, ?_, ?_⟩
  · show (okZ 4 x3 && (okZ 3 x10 && okZ 3 x11)) = true
    rw [o3, o10, o11]; rfl
  · show (smR 4398046510977 x3 && (smR 5864062014635 x10 && smR 5864062014635 x11)) = true
    rw [ZcA o3 (Nat.le_refl _) (by omega), ZcA o10 (Nat.le_refl _) (by omega), ZcA o11 (Nat.le_refl _) (by omega)]; rfl
theorem Zq6 : ∀ rows : List (List D), (∀ r ∈ rows, GoodL kSes r) → ∃ ss : List SesD, rows = ss.map (sesL 0) ∧ okSS ss = true ∧ ss.all smS = true
  | [], _ => ⟨[], rfl, rfl, rfl⟩
  | r :: rows, h => by
    obtain ⟨s, rfl, hs, ks⟩ := ZvR (h r (by simp))
    obtain ⟨ss, rfl, hss, kss⟩ := Zq6 rows fun r hr => h r (by simp [hr])
    refine ⟨s :: ss, rfl, ?_, by rw [List.all_cons, ks, kss]; rfl⟩
    unfold okSS at hss ⊢
    rw [List.all_cons, hs, hss]; rfl
theorem Zv8 {r : List D} (h : GoodL kMac r) : ∃ m ss, r = macL 0 m ss ∧ okM m ss = true ∧ smM m ss = true ∧ ss.length * 184 ≤ 140737488351232 := by
  unfold kMac at h
  obtain ⟨x0, r0, rfl, o0, bo0, g0⟩ := h.rb
  obtain ⟨x1, r1, rfl, o1, bo1, g1⟩ := g0.rb
  obtain ⟨x2, r2, rfl, o2, bo2, g2⟩ := g1.rb
  obtain ⟨x3, r3, rfl, o3, bo3, g3⟩ := g2.rb
  obtain ⟨x4, r4, rfl, g4⟩ := g3.i
  obtain ⟨x5, r5, rfl, g5⟩ := g4.i
  obtain ⟨x6, r6, rfl, g6⟩ := g5.i
  obtain ⟨x7, r7, rfl, g7⟩ := g6.i
  obtain ⟨x8, r8, rfl, g8⟩ := g7.i
  obtain ⟨d, r9, rfl, h9, g9⟩ := g8.cons_inv
  obtain ⟨rows, rfl, hb, _, hr⟩ := h9.sl_inv
  obtain ⟨ss, rfl, hss, kss⟩ := Zq6 rows hr
  obtain ⟨x10, r10, rfl, o10, bo10, g10⟩ := g9.rb
  obtain rfl := g10.nil_inv
  refine ⟨{ w0 := x0, w1 := x1, w2 := x2, w3 := x3, c0 := x4, c1 := x5, c2 := x6, c3 := x7, ce := x8, tr := x10 }, ss, rfl, ?_, ?_, by rwa [List.length_map] at hb⟩
  · unfold okM okA
    show (okZ 3 x0 && (okZ 3 x1 && (okZ 3 x2 && okZ 3 x3)) && (okZ 4 x10 && okSS ss)) = true
    rw [o0, o1, o2, o3, o10, hss]; rfl
  · have c : ∀ {R : List (List D)}, okZ 3 R = true → R.length * 24 ≤ 140737488351232 → okC R = true := fun {R} h1 h2 => by
      have := ZcA (n := 5864062014635) h1 (Nat.le_refl _) (by omega)
      unfold smR at this
      unfold okC
      simpa using this
    show (okC x0 && (okC x1 && (okC x2 && okC x3)) && (smR 4398046510977 x10 && ss.all smS)) = true
    rw [ZcA o10 (Nat.le_refl _) (by omega), kss, c o0 bo0, c o1 bo1, c o2 bo2, c o3 bo3]; rfl
end

end Vm
