/- An interpreter for Go's texts over plain data, its proof, and what it says of the functions that the law reaches. My own work. -/
import Derived.Test.YtnhodnfnlnccaaaGreatSf4
namespace Vm
section
open Go Go.Proofs
set_option linter.unusedSimpArgs false
set_option linter.unusedVariables false
set_option maxRecDepth 100000
theorem any_findB {α : Type} (l : List α) (p : α → Bool) : decide ((match l.findIdx? p with | some i => (i : Int) | none => -1) ≥ 0) = l.any p := by
  cases h : l.findIdx? p with
  | some i =>
    have : l.any p = true := by
      rw [List.findIdx?_eq_some_iff_getElem] at h
      obtain ⟨h1, h2, _⟩ := h
      exact List.any_eq_true.2 ⟨_, List.getElem_mem h1, h2⟩
    rw [this]; simp
  | none =>
    have : l.any p = false := by
      rw [List.findIdx?_eq_none_iff] at h
      rw [List.any_eq_false]; intro x hx; simpa using h x hx
    rw [this]; rfl
def thW (R0 R1 R2 R3 : List (List D)) (x y : Int) : Bool := thr R0.length R1.length R2.length R3.length x y
def takeCl (fn : Nat) (e : D) (K : List (List D) → List (List D) → List (List D) → List (List D) → Prop) : Prop := match e with
  | .f g fs cs => match Nat.beq g fn with
    | true => match fs, cs with
      | [x], [] => match x with
        | .f h gs ps => match Nat.beq h AG with
          | true => match gs, ps with
            | [], [p] => takeWP p K
            | _, _ => False
          | false => False
        | _ => False
      | _, _ => False
    | false => False
  | _ => False
theorem takeCl_spec {fn : Nat} {e : D} {K : List (List D) → List (List D) → List (List D) → List (List D) → Prop} (hn : fn ≠ AG) (h : takeCl fn e K) : ∃ a b c d, K a b c d ∧ RD e (.f fn [.f AG [] [.p 0 (wsL a b c d) 0]] []) ∧ e.isOwn = false := by
  unfold takeCl at h
  split at h
  · split at h
    · rename_i hb
      have := beq_true hb; subst this
      split at h
      · split at h
        · split at h
          · rename_i hb2
            have := beq_true hb2; subst this
            split at h
            · obtain ⟨a, b, c, d, h, r, _⟩ := takeWP_spec h
              exact ⟨a, b, c, d, h, RD.f (.cons (RD.ag (.cons r .nil)) .nil) .nil hn, rfl⟩
            · exact h.elim
          · exact h.elim
        · exact h.elim
      · exact h.elim
    · exact h.elim
  · exact h.elim
def isRW (c : Int) : Bool := bif c == 2 then true else c == 3
theorem eIWd (a b c d : Int) (K : DV → Prop) : (ask Tryz.prog [] Tryz.f162 [.agg [vi a, vi b, vi c, vi d]] K) = (bif a == 2 then K (DV.c (D.v (Value.bool true))) else K (DV.c (D.v (Value.bool (a == 3))))) := by kernel_rfl
def sIWd : Spec := fun ds Q => match ds with | [.agg [.v (.int .i64 a), .v (.int .i64 b), .v (.int .i64 c), .v (.int .i64 d)]] => Q (B (isRW a)) | _ => False
theorem oIWd : SpecOK Tryz.prog 162 sIWd := o_of Tryz.func162 (by kernel_rfl) rfl fun ds Q h => by
  unfold sIWd at h; split at h
  · rename_i a b c d
    refine ⟨_, ct_ask .nil mixed Tryz.func162 rfl rfl rfl ?_, rfl, rfl, h⟩
    rw [eIWd]; unfold isRW; cases a == 2 <;> rfl
  · exact h.elim
def noRd (R0 R1 R2 R3 : List (List D)) (r : List Int) : Bool := !thW R0 R1 R2 R3 (r.getD 0 0) (r.getD 1 0)
theorem eLR (a b c : Int) (R0 R1 R2 R3 : List (List D)) (K : DV → Prop) : (ask Tryz.prog [(157, sThr)] Tryz.f108 [.agg [.p 0 [.s 0 3 R0 [], .s 0 3 R1 [], .s 0 3 R2 [], .s 0 3 R3 []] 0], .agg [vi a, vi b, vi c]] K) = (K (DV.c (D.v (Value.bool (thr (List.length R0) (List.length R1) (List.length R2) (List.length R3) a b))))) := by kernel_rfl
def sLR : Spec := fun ds Q => match ds with | [.agg [.p 0 [.s 0 3 R0 [], .s 0 3 R1 [], .s 0 3 R2 [], .s 0 3 R3 []] 0], .agg [.v (.int .i64 a), .v (.int .i64 b), .v (.int .i64 c)]] => Q (B (!noRd R0 R1 R2 R3 [a, b, c])) | _ => False
theorem oLR : SpecOK Tryz.prog 108 sLR := o_of Tryz.func108 (by kernel_rfl) rfl fun ds Q h => by
  unfold sLR at h; split at h
  · rename_i R0 R1 R2 R3 a b c
    refine ⟨_, ct_ask ((.cons oThr .nil)) mixed Tryz.func108 rfl rfl rfl ?_, rfl, rfl, h⟩
    rw [eLR]; unfold noRd thW; simp only [List.getD_cons_zero, List.getD_cons_succ, Bool.not_not]
    try (cases isRW a <;> simp)
  · exact h.elim
theorem eLR1 (a b c : Int) (R0 R1 R2 R3 : List (List D)) (K : DV → Prop) : (ask Tryz.prog [(108, sLR)] Tryz.f156 [.agg [vi a, vi b, vi c], .c (.p 0 [.f 108 [.f 4294967295 [] [.p 0 [.s 0 3 R0 [], .s 0 3 R1 [], .s 0 3 R2 [], .s 0 3 R3 []] 0]] []] 0)] K) = (K (DV.c (D.v (Value.bool !!noRd R0 R1 R2 R3 [a, b, c])))) := by kernel_rfl
def sLR1 : Spec := fun ds Q => match ds with | [.agg [.v (.int .i64 a), .v (.int .i64 b), .v (.int .i64 c)], .c (.p 0 [.f 108 [.f 4294967295 [] [.p 0 [.s 0 3 R0 [], .s 0 3 R1 [], .s 0 3 R2 [], .s 0 3 R3 []] 0]] []] 0)] => Q (B (noRd R0 R1 R2 R3 [a, b, c])) | _ => False
theorem oLR1 : SpecOK Tryz.prog 156 sLR1 := o_of Tryz.func156 (by kernel_rfl) rfl fun ds Q h => by
  unfold sLR1 at h; split at h
  · exact ⟨_, ct_ask (.cons oLR .nil) mixed Tryz.func156 rfl rfl rfl (by rw [eLR1, Bool.not_not]), rfl, rfl, h⟩
  · exact h.elim
def sIXLR (R0 : List (List D)) (R1 : List (List D)) (R2 : List (List D)) (R3 : List (List D)) (R : List (List D)) (sp : List (List D)) (v : Int) (i : Int) : X := ⟨mkT 19 [(0, aS 3 R sp), (1, .c (.d (.f 156 [] [.p 0 [.f 108 [.f 4294967295 [] [.p 0 [.s 0 3 R0 [], .s 0 3 R1 [], .s 0 3 R2 [], .s 0 3 R3 []] 0]] []] 0]))), (4, ai v), (7, ai R.length), (8, ai i)], [], [], []⟩
def v_sIXLR (R0 : List (List D)) (R1 : List (List D)) (R2 : List (List D)) (R3 : List (List D)) (R : List (List D)) (sp : List (List D)) : Vw := fun y K => wI y 4 fun v => wI y 8 fun i => K (sIXLR R0 R1 R2 R3 R sp v i)
theorem v_sIXLR_ok (R0 : List (List D)) (R1 : List (List D)) (R2 : List (List D)) (R3 : List (List D)) (R : List (List D)) (sp : List (List D)) : VwOK (v_sIXLR R0 R1 R2 R3 R sp) := fun y K h => by
  unfold v_sIXLR at h
  obtain ⟨v, h⟩ := wI_ex h
  obtain ⟨i, h⟩ := wI_ex h
  exact ⟨_, h⟩
theorem rIXLR (R0 : List (List D)) (R1 : List (List D)) (R2 : List (List D)) (R3 : List (List D)) (R sp : List (List D)) (i v : Int) (N : X → Prop) (E : Exit → X → Prop) : (roundW Tryz.prog (hkA band bor [(156, sLR1)] []) Tryz.f185 0 [] [0, 1, 4, 7, 8] [] (v_sIXLR R0 R1 R2 R3 R sp) (v_sIXLR R0 R1 R2 R3 R sp) N E (sIXLR R0 R1 R2 R3 R sp v i)) = (bif decide (i < @Nat.cast Int _ (List.length R)) then bif decide (0 ≤ i) && decide (i < @Nat.cast Int _ (List.length R)) then bif isJ [IntKind.i64, IntKind.i64, IntKind.i64] (List.drop (0) (List.getD R (Int.toNat i) [])) then bif noRd R0 R1 R2 R3 [hdJ (List.drop (0) (List.getD R (Int.toNat i) [])), hdJ (List.tail (List.drop (0) (List.getD R (Int.toNat i) []))), hdJ (List.tail (List.tail (List.drop (0) (List.getD R (Int.toNat i) []))))] then sIXLR R0 R1 R2 R3 R sp i i = sIXLR R0 R1 R2 R3 R sp i i ∧ E Exit.ret (sIXLR R0 R1 R2 R3 R sp i i) else sIXLR R0 R1 R2 R3 R sp v (IntKind.wrap IntKind.i64 (i + 1)) = sIXLR R0 R1 R2 R3 R sp v (IntKind.wrap IntKind.i64 (i + 1)) ∧ N (sIXLR R0 R1 R2 R3 R sp v (IntKind.wrap IntKind.i64 (i + 1))) else False else False else sIXLR R0 R1 R2 R3 R sp v i = sIXLR R0 R1 R2 R3 R sp v i ∧ E (Exit.exit (0)) (sIXLR R0 R1 R2 R3 R sp v i)) := by kernel_rfl
def fIXLR (R0 : List (List D)) (R1 : List (List D)) (R2 : List (List D)) (R3 : List (List D)) (l : List (List Int)) (sp : List (List D)) : LSum := findS [0, 1, 4, 7, 8] [] (fun i => sIXLR R0 R1 R2 R3 (mZ l) sp 0 i) (fun i => sIXLR R0 R1 R2 R3 (mZ l) sp i i) l.length (fun i => noRd R0 R1 R2 R3 (l.getD i [])) .ret (.exit 0)
theorem eIXLR (R0 : List (List D)) (R1 : List (List D)) (R2 : List (List D)) (R3 : List (List D)) (l : List (List Int)) (sp : List (List D)) (K : DV → Prop) : (askL Tryz.prog [] [(2, fIXLR R0 R1 R2 R3 l sp)] Tryz.f185 [dS 3 (mZ l) sp, .c (.f 156 [] [.p 0 [.f 108 [.f 4294967295 [] [.p 0 [.s 0 3 R0 [], .s 0 3 R1 [], .s 0 3 R2 [], .s 0 3 R3 []] 0]] []] 0])] K) = (sIXLR R0 R1 R2 R3 (mZ l) sp (0) (0) = sIXLR R0 R1 R2 R3 (mZ l) sp (0) (0) ∧ (∀ (i : Nat), firstAt (fun i => noRd R0 R1 R2 R3 (List.getD l i [])) (List.length l) i → K (DV.c (D.v (Value.int IntKind.i64 (@Nat.cast Int _ i))))) ∧ (noneTo (fun i => noRd R0 R1 R2 R3 (List.getD l i [])) (List.length l) → K (DV.c (D.v (Value.int IntKind.i64 (-1)))))) := by kernel_rfl
theorem kIXLR (R0 : List (List D)) (R1 : List (List D)) (R2 : List (List D)) (R3 : List (List D)) {l : List (List Int)} {sp : List (List D)} (hw : wid 3 l) (hn : l.length ≤ 9223372036854775807) (Q : Exit → X → Prop) (x : X) (h : fIXLR R0 R1 R2 R3 l sp Q x) : XWP Tryz.prog (.loop (bodyL Tryz.f185 0)) Q x := by
  refine xwp_find (H := hkA band bor [(156, sLR1)] []) (sw := []) (V := v_sIXLR R0 R1 R2 R3 (mZ l) sp) (VE := v_sIXLR R0 R1 R2 R3 (mZ l) sp) (hkl_ok (.cons oLR1 .nil)) mixed (loops_nil rfl) (v_sIXLR_ok R0 R1 R2 R3 (mZ l) sp) (v_sIXLR_ok R0 R1 R2 R3 (mZ l) sp) _ _ _ _ _ _ (fun i hl N E h1 h2 => ?_) (fun N E h1 => ?_) Q x h
  · rw [rIXLR]
    have wi : IntKind.wrap .i64 ((i : Int) + 1) = ((i + 1 : Nat) : Int) := wrap_nat (n := 1) (by omega)
    have hj1 : isJ [IntKind.i64, IntKind.i64, IntKind.i64] ((mZ l).getD i []) = true := isJ_mZ (j := 0) (n := 3) hw hl (by omega)
    simp only [mZ_len, Int.ofNat_lt, hl, decide_true, cond_true, Int.natCast_nonneg, Bool.and_self, Int.toNat_natCast, hdJ_mZt1, hdJ_mZt2, hdJ_mZt3, hj1, List.drop_zero, hdJ_mZ0, true_and, wi]
    have e : noRd R0 R1 R2 R3 (l.getD i []) = noRd R0 R1 R2 R3 [(l.getD i []).getD 0 0, (l.getD i []).getD 1 0, (l.getD i []).getD 2 0] := rfl
    cases ho : noRd R0 R1 R2 R3 (l.getD i []) with
    | false => rw [e] at ho; rw [ho]; exact h2 (by rw [e]; exact ho)
    | true => rw [e] at ho; rw [ho]; exact h1 (by rw [e]; exact ho)
  · rw [rIXLR]
    simp only [mZ_len, Int.ofNat_lt, Nat.lt_irrefl, decide_false, cond_false, true_and]
    exact h1
def sIxLR : Spec := fun ds Q => match ds with | [.c (.s 0 3 R sp), .c (.f 156 [] [.p 0 [.f 108 [.f 4294967295 [] [.p 0 [.s 0 3 R0 [], .s 0 3 R1 [], .s 0 3 R2 [], .s 0 3 R3 []] 0]] []] 0])] => cond (okZ 3 R) (Q (I (match (toZ R).findIdx? (noRd R0 R1 R2 R3) with | some i => (i : Int) | none => -1))) False | _ => False
theorem oIxLR : SpecOK Tryz.prog 185 sIxLR := o_of Tryz.func185 (by kernel_rfl) rfl fun ds Q h => by
  unfold sIxLR at h; split at h
  · rename_i R sp R0 R1 R2 R3
    obtain ⟨h1, h2⟩ := cond_P h
    obtain ⟨e1, w1, n1⟩ := okZ_spec h1
    rw [e1]
    rw [← toZ_len R] at n1
    generalize toZ R = l at *
    refine ⟨_, ct_askL (l := []) (m := [(2, fIXLR R0 R1 R2 R3 l sp)]) .nil mixed (loops1 rfl (by kernel_rfl) (kIXLR R0 R1 R2 R3 w1 n1)) Tryz.func185 rfl rfl rfl ?_, rfl, rfl, h2⟩
    rw [eIXLR]
    refine ⟨rfl, fun i hi => ?_, fun hn => ?_⟩
    · rw [hi.find]
    · rw [hn.find]
  · exact h.elim
theorem eCOLR (R0 : List (List D)) (R1 : List (List D)) (R2 : List (List D)) (R3 : List (List D)) (R sp : List (List D)) (K : DV → Prop) : (ask Tryz.prog [(185, sIxLR)] Tryz.f154 [dS 3 R sp, .c (.f 156 [] [.p 0 [.f 108 [.f 4294967295 [] [.p 0 [.s 0 3 R0 [], .s 0 3 R1 [], .s 0 3 R2 [], .s 0 3 R3 []] 0]] []] 0])] K) = (bif okZ (3) R then K (DV.c (D.v (Value.bool (decide ((match List.findIdx? (noRd R0 R1 R2 R3) (toZ R) with | some i => @Nat.cast Int _ i | none => -1) ≥ 0))))) else False) := by kernel_rfl
def sCoLR : Spec := fun ds Q => match ds with | [.c (.s 0 3 R sp), .c (.f 156 [] [.p 0 [.f 108 [.f 4294967295 [] [.p 0 [.s 0 3 R0 [], .s 0 3 R1 [], .s 0 3 R2 [], .s 0 3 R3 []] 0]] []] 0])] => cond (okZ 3 R) (Q (B ((toZ R).any (noRd R0 R1 R2 R3)))) False | _ => False
theorem oCoLR : SpecOK Tryz.prog 154 sCoLR := o_of Tryz.func154 (by kernel_rfl) rfl fun ds Q h => by
  unfold sCoLR at h; split at h
  · obtain ⟨h1, h2⟩ := cond_P h
    refine ⟨_, ct_ask (.cons oIxLR .nil) mixed Tryz.func154 rfl rfl rfl ?_, rfl, rfl, h2⟩
    rw [eCOLR, h1, any_findB]; rfl
  · exact h.elim
theorem eAllLR (R : List (List D)) (R0 R1 R2 R3 : List (List D)) (K : DV → Prop) : (ask Tryz.prog [(154, sCoLR)] Tryz.f107 [.c (.s 0 3 R []), .c (.f 108 [.f 4294967295 [] [.p 0 (wsL R0 R1 R2 R3) 0]] [])] K) = (bif okZ (3) R then K (DV.c (D.v (Value.bool !List.any (toZ R) (noRd R0 R1 R2 R3)))) else False) := by kernel_rfl
def sAllLR : Spec := fun ds Q => match ds with | [.c d, .c e] => cond d.isOwn False (takeS 3 d fun R => takeCl 108 e fun R0 R1 R2 R3 => cond (okZ 3 R) (Q (B (!(toZ R).any (noRd R0 R1 R2 R3)))) False) | _ => False
theorem oAllLR : SpecOK Tryz.prog 107 sAllLR := o_al Tryz.func107 (by kernel_rfl) rfl fun ds Q h => by
  unfold sAllLR at h; split at h
  · rename_i d e
    cases hd : d.isOwn with
    | true => rw [hd] at h; exact h.elim
    | false =>
      rw [hd] at h
      obtain ⟨R, h, r1⟩ := takeS_spec h
      obtain ⟨R0, R1, R2, R3, h, r2, e2⟩ := takeCl_spec (by decide) h
      obtain ⟨h1, h2⟩ := cond_P h
      refine ⟨_, _, .cons (.c r1 hd rfl) (.cons (.c r2 e2 rfl) .nil), ct_ask (.cons oCoLR .nil) mixed Tryz.func107 rfl rfl rfl ?_, rfl, rfl, h2⟩
      rw [eAllLR, h1]; rfl
  · exact h.elim
def noWr (R0 R1 R2 R3 : List (List D)) (r : List Int) : Bool := !thW R0 R1 R2 R3 (r.getD 0 0) (r.getD 1 0)
theorem eLW (a b c : Int) (R0 R1 R2 R3 : List (List D)) (K : DV → Prop) : (ask Tryz.prog [(157, sThr)] Tryz.f110 [.agg [.p 0 [.s 0 3 R0 [], .s 0 3 R1 [], .s 0 3 R2 [], .s 0 3 R3 []] 0], .agg [vi a, vi b, vi c]] K) = (K (DV.c (D.v (Value.bool (thr (List.length R0) (List.length R1) (List.length R2) (List.length R3) a b))))) := by kernel_rfl
def sLW : Spec := fun ds Q => match ds with | [.agg [.p 0 [.s 0 3 R0 [], .s 0 3 R1 [], .s 0 3 R2 [], .s 0 3 R3 []] 0], .agg [.v (.int .i64 a), .v (.int .i64 b), .v (.int .i64 c)]] => Q (B (!noWr R0 R1 R2 R3 [a, b, c])) | _ => False
theorem oLW : SpecOK Tryz.prog 110 sLW := o_of Tryz.func110 (by kernel_rfl) rfl fun ds Q h => by
  unfold sLW at h; split at h
  · rename_i R0 R1 R2 R3 a b c
    refine ⟨_, ct_ask ((.cons oThr .nil)) mixed Tryz.func110 rfl rfl rfl ?_, rfl, rfl, h⟩
    rw [eLW]; unfold noWr thW; simp only [List.getD_cons_zero, List.getD_cons_succ, Bool.not_not]
    try (cases isRW a <;> simp)
  · exact h.elim
theorem eLW1 (a b c : Int) (R0 R1 R2 R3 : List (List D)) (K : DV → Prop) : (ask Tryz.prog [(110, sLW)] Tryz.f159 [.agg [vi a, vi b, vi c], .c (.p 0 [.f 110 [.f 4294967295 [] [.p 0 [.s 0 3 R0 [], .s 0 3 R1 [], .s 0 3 R2 [], .s 0 3 R3 []] 0]] []] 0)] K) = (K (DV.c (D.v (Value.bool !!noWr R0 R1 R2 R3 [a, b, c])))) := by kernel_rfl
def sLW1 : Spec := fun ds Q => match ds with | [.agg [.v (.int .i64 a), .v (.int .i64 b), .v (.int .i64 c)], .c (.p 0 [.f 110 [.f 4294967295 [] [.p 0 [.s 0 3 R0 [], .s 0 3 R1 [], .s 0 3 R2 [], .s 0 3 R3 []] 0]] []] 0)] => Q (B (noWr R0 R1 R2 R3 [a, b, c])) | _ => False
theorem oLW1 : SpecOK Tryz.prog 159 sLW1 := o_of Tryz.func159 (by kernel_rfl) rfl fun ds Q h => by
  unfold sLW1 at h; split at h
  · exact ⟨_, ct_ask (.cons oLW .nil) mixed Tryz.func159 rfl rfl rfl (by rw [eLW1, Bool.not_not]), rfl, rfl, h⟩
  · exact h.elim
def sIXLW (R0 : List (List D)) (R1 : List (List D)) (R2 : List (List D)) (R3 : List (List D)) (R : List (List D)) (sp : List (List D)) (v : Int) (i : Int) : X := ⟨mkT 19 [(0, aS 3 R sp), (1, .c (.d (.f 159 [] [.p 0 [.f 110 [.f 4294967295 [] [.p 0 [.s 0 3 R0 [], .s 0 3 R1 [], .s 0 3 R2 [], .s 0 3 R3 []] 0]] []] 0]))), (4, ai v), (7, ai R.length), (8, ai i)], [], [], []⟩
def v_sIXLW (R0 : List (List D)) (R1 : List (List D)) (R2 : List (List D)) (R3 : List (List D)) (R : List (List D)) (sp : List (List D)) : Vw := fun y K => wI y 4 fun v => wI y 8 fun i => K (sIXLW R0 R1 R2 R3 R sp v i)
theorem v_sIXLW_ok (R0 : List (List D)) (R1 : List (List D)) (R2 : List (List D)) (R3 : List (List D)) (R : List (List D)) (sp : List (List D)) : VwOK (v_sIXLW R0 R1 R2 R3 R sp) := fun y K h => by
  unfold v_sIXLW at h
  obtain ⟨v, h⟩ := wI_ex h
  obtain ⟨i, h⟩ := wI_ex h
  exact ⟨_, h⟩
theorem rIXLW (R0 : List (List D)) (R1 : List (List D)) (R2 : List (List D)) (R3 : List (List D)) (R sp : List (List D)) (i v : Int) (N : X → Prop) (E : Exit → X → Prop) : (roundW Tryz.prog (hkA band bor [(159, sLW1)] []) Tryz.f187 0 [] [0, 1, 4, 7, 8] [] (v_sIXLW R0 R1 R2 R3 R sp) (v_sIXLW R0 R1 R2 R3 R sp) N E (sIXLW R0 R1 R2 R3 R sp v i)) = (bif decide (i < @Nat.cast Int _ (List.length R)) then bif decide (0 ≤ i) && decide (i < @Nat.cast Int _ (List.length R)) then bif isJ [IntKind.i64, IntKind.i64, IntKind.i64] (List.drop (0) (List.getD R (Int.toNat i) [])) then bif noWr R0 R1 R2 R3 [hdJ (List.drop (0) (List.getD R (Int.toNat i) [])), hdJ (List.tail (List.drop (0) (List.getD R (Int.toNat i) []))), hdJ (List.tail (List.tail (List.drop (0) (List.getD R (Int.toNat i) []))))] then sIXLW R0 R1 R2 R3 R sp i i = sIXLW R0 R1 R2 R3 R sp i i ∧ E Exit.ret (sIXLW R0 R1 R2 R3 R sp i i) else sIXLW R0 R1 R2 R3 R sp v (IntKind.wrap IntKind.i64 (i + 1)) = sIXLW R0 R1 R2 R3 R sp v (IntKind.wrap IntKind.i64 (i + 1)) ∧ N (sIXLW R0 R1 R2 R3 R sp v (IntKind.wrap IntKind.i64 (i + 1))) else False else False else sIXLW R0 R1 R2 R3 R sp v i = sIXLW R0 R1 R2 R3 R sp v i ∧ E (Exit.exit (0)) (sIXLW R0 R1 R2 R3 R sp v i)) := by kernel_rfl
def fIXLW (R0 : List (List D)) (R1 : List (List D)) (R2 : List (List D)) (R3 : List (List D)) (l : List (List Int)) (sp : List (List D)) : LSum := findS [0, 1, 4, 7, 8] [] (fun i => sIXLW R0 R1 R2 R3 (mZ l) sp 0 i) (fun i => sIXLW R0 R1 R2 R3 (mZ l) sp i i) l.length (fun i => noWr R0 R1 R2 R3 (l.getD i [])) .ret (.exit 0)
theorem eIXLW (R0 : List (List D)) (R1 : List (List D)) (R2 : List (List D)) (R3 : List (List D)) (l : List (List Int)) (sp : List (List D)) (K : DV → Prop) : (askL Tryz.prog [] [(2, fIXLW R0 R1 R2 R3 l sp)] Tryz.f187 [dS 3 (mZ l) sp, .c (.f 159 [] [.p 0 [.f 110 [.f 4294967295 [] [.p 0 [.s 0 3 R0 [], .s 0 3 R1 [], .s 0 3 R2 [], .s 0 3 R3 []] 0]] []] 0])] K) = (sIXLW R0 R1 R2 R3 (mZ l) sp (0) (0) = sIXLW R0 R1 R2 R3 (mZ l) sp (0) (0) ∧ (∀ (i : Nat), firstAt (fun i => noWr R0 R1 R2 R3 (List.getD l i [])) (List.length l) i → K (DV.c (D.v (Value.int IntKind.i64 (@Nat.cast Int _ i))))) ∧ (noneTo (fun i => noWr R0 R1 R2 R3 (List.getD l i [])) (List.length l) → K (DV.c (D.v (Value.int IntKind.i64 (-1)))))) := by kernel_rfl
theorem kIXLW (R0 : List (List D)) (R1 : List (List D)) (R2 : List (List D)) (R3 : List (List D)) {l : List (List Int)} {sp : List (List D)} (hw : wid 3 l) (hn : l.length ≤ 9223372036854775807) (Q : Exit → X → Prop) (x : X) (h : fIXLW R0 R1 R2 R3 l sp Q x) : XWP Tryz.prog (.loop (bodyL Tryz.f187 0)) Q x := by
  refine xwp_find (H := hkA band bor [(159, sLW1)] []) (sw := []) (V := v_sIXLW R0 R1 R2 R3 (mZ l) sp) (VE := v_sIXLW R0 R1 R2 R3 (mZ l) sp) (hkl_ok (.cons oLW1 .nil)) mixed (loops_nil rfl) (v_sIXLW_ok R0 R1 R2 R3 (mZ l) sp) (v_sIXLW_ok R0 R1 R2 R3 (mZ l) sp) _ _ _ _ _ _ (fun i hl N E h1 h2 => ?_) (fun N E h1 => ?_) Q x h
  · rw [rIXLW]
    have wi : IntKind.wrap .i64 ((i : Int) + 1) = ((i + 1 : Nat) : Int) := wrap_nat (n := 1) (by omega)
    have hj1 : isJ [IntKind.i64, IntKind.i64, IntKind.i64] ((mZ l).getD i []) = true := isJ_mZ (j := 0) (n := 3) hw hl (by omega)
    simp only [mZ_len, Int.ofNat_lt, hl, decide_true, cond_true, Int.natCast_nonneg, Bool.and_self, Int.toNat_natCast, hdJ_mZt1, hdJ_mZt2, hdJ_mZt3, hj1, List.drop_zero, hdJ_mZ0, true_and, wi]
    have e : noWr R0 R1 R2 R3 (l.getD i []) = noWr R0 R1 R2 R3 [(l.getD i []).getD 0 0, (l.getD i []).getD 1 0, (l.getD i []).getD 2 0] := rfl
    cases ho : noWr R0 R1 R2 R3 (l.getD i []) with
    | false => rw [e] at ho; rw [ho]; exact h2 (by rw [e]; exact ho)
    | true => rw [e] at ho; rw [ho]; exact h1 (by rw [e]; exact ho)
  · rw [rIXLW]
    simp only [mZ_len, Int.ofNat_lt, Nat.lt_irrefl, decide_false, cond_false, true_and]
    exact h1
def sIxLW : Spec := fun ds Q => match ds with | [.c (.s 0 3 R sp), .c (.f 159 [] [.p 0 [.f 110 [.f 4294967295 [] [.p 0 [.s 0 3 R0 [], .s 0 3 R1 [], .s 0 3 R2 [], .s 0 3 R3 []] 0]] []] 0])] => cond (okZ 3 R) (Q (I (match (toZ R).findIdx? (noWr R0 R1 R2 R3) with | some i => (i : Int) | none => -1))) False | _ => False
theorem oIxLW : SpecOK Tryz.prog 187 sIxLW := o_of Tryz.func187 (by kernel_rfl) rfl fun ds Q h => by
  unfold sIxLW at h; split at h
  · rename_i R sp R0 R1 R2 R3
    obtain ⟨h1, h2⟩ := cond_P h
    obtain ⟨e1, w1, n1⟩ := okZ_spec h1
    rw [e1]
    rw [← toZ_len R] at n1
    generalize toZ R = l at *
    refine ⟨_, ct_askL (l := []) (m := [(2, fIXLW R0 R1 R2 R3 l sp)]) .nil mixed (loops1 rfl (by kernel_rfl) (kIXLW R0 R1 R2 R3 w1 n1)) Tryz.func187 rfl rfl rfl ?_, rfl, rfl, h2⟩
    rw [eIXLW]
    refine ⟨rfl, fun i hi => ?_, fun hn => ?_⟩
    · rw [hi.find]
    · rw [hn.find]
  · exact h.elim
theorem eCOLW (R0 : List (List D)) (R1 : List (List D)) (R2 : List (List D)) (R3 : List (List D)) (R sp : List (List D)) (K : DV → Prop) : (ask Tryz.prog [(187, sIxLW)] Tryz.f158 [dS 3 R sp, .c (.f 159 [] [.p 0 [.f 110 [.f 4294967295 [] [.p 0 [.s 0 3 R0 [], .s 0 3 R1 [], .s 0 3 R2 [], .s 0 3 R3 []] 0]] []] 0])] K) = (bif okZ (3) R then K (DV.c (D.v (Value.bool (decide ((match List.findIdx? (noWr R0 R1 R2 R3) (toZ R) with | some i => @Nat.cast Int _ i | none => -1) ≥ 0))))) else False) := by kernel_rfl
def sCoLW : Spec := fun ds Q => match ds with | [.c (.s 0 3 R sp), .c (.f 159 [] [.p 0 [.f 110 [.f 4294967295 [] [.p 0 [.s 0 3 R0 [], .s 0 3 R1 [], .s 0 3 R2 [], .s 0 3 R3 []] 0]] []] 0])] => cond (okZ 3 R) (Q (B ((toZ R).any (noWr R0 R1 R2 R3)))) False | _ => False
theorem oCoLW : SpecOK Tryz.prog 158 sCoLW := o_of Tryz.func158 (by kernel_rfl) rfl fun ds Q h => by
  unfold sCoLW at h; split at h
  · obtain ⟨h1, h2⟩ := cond_P h
    refine ⟨_, ct_ask (.cons oIxLW .nil) mixed Tryz.func158 rfl rfl rfl ?_, rfl, rfl, h2⟩
    rw [eCOLW, h1, any_findB]; rfl
  · exact h.elim
theorem eAllLW (R : List (List D)) (R0 R1 R2 R3 : List (List D)) (K : DV → Prop) : (ask Tryz.prog [(158, sCoLW)] Tryz.f109 [.c (.s 0 3 R []), .c (.f 110 [.f 4294967295 [] [.p 0 (wsL R0 R1 R2 R3) 0]] [])] K) = (bif okZ (3) R then K (DV.c (D.v (Value.bool !List.any (toZ R) (noWr R0 R1 R2 R3)))) else False) := by kernel_rfl
def sAllLW : Spec := fun ds Q => match ds with | [.c d, .c e] => cond d.isOwn False (takeS 3 d fun R => takeCl 110 e fun R0 R1 R2 R3 => cond (okZ 3 R) (Q (B (!(toZ R).any (noWr R0 R1 R2 R3)))) False) | _ => False
theorem oAllLW : SpecOK Tryz.prog 109 sAllLW := o_al Tryz.func109 (by kernel_rfl) rfl fun ds Q h => by
  unfold sAllLW at h; split at h
  · rename_i d e
    cases hd : d.isOwn with
    | true => rw [hd] at h; exact h.elim
    | false =>
      rw [hd] at h
      obtain ⟨R, h, r1⟩ := takeS_spec h
      obtain ⟨R0, R1, R2, R3, h, r2, e2⟩ := takeCl_spec (by decide) h
      obtain ⟨h1, h2⟩ := cond_P h
      refine ⟨_, _, .cons (.c r1 hd rfl) (.cons (.c r2 e2 rfl) .nil), ct_ask (.cons oCoLW .nil) mixed Tryz.func109 rfl rfl rfl ?_, rfl, rfl, h2⟩
      rw [eAllLW, h1]; rfl
  · exact h.elim
def noIn (R0 R1 R2 R3 : List (List D)) (r : List Int) : Bool := isRW (r.getD 0 0) && !thW R0 R1 R2 R3 (r.getD 2 0) (r.getD 3 0)
theorem eLI (a b c d : Int) (R0 R1 R2 R3 : List (List D)) (K : DV → Prop) : (ask Tryz.prog [(162, sIWd), (157, sThr)] Tryz.f112 [.agg [.p 0 [.s 0 3 R0 [], .s 0 3 R1 [], .s 0 3 R2 [], .s 0 3 R3 []] 0], .agg [vi a, vi b, vi c, vi d]] K) = (bif !isRW a then K (DV.c (D.v (Value.bool true))) else K (DV.c (D.v (Value.bool (thr (List.length R0) (List.length R1) (List.length R2) (List.length R3) c d))))) := by kernel_rfl
def sLI : Spec := fun ds Q => match ds with | [.agg [.p 0 [.s 0 3 R0 [], .s 0 3 R1 [], .s 0 3 R2 [], .s 0 3 R3 []] 0], .agg [.v (.int .i64 a), .v (.int .i64 b), .v (.int .i64 c), .v (.int .i64 d)]] => Q (B (!noIn R0 R1 R2 R3 [a, b, c, d])) | _ => False
theorem oLI : SpecOK Tryz.prog 112 sLI := o_of Tryz.func112 (by kernel_rfl) rfl fun ds Q h => by
  unfold sLI at h; split at h
  · rename_i R0 R1 R2 R3 a b c d
    refine ⟨_, ct_ask (.cons oIWd (.cons oThr .nil)) mixed Tryz.func112 rfl rfl rfl ?_, rfl, rfl, h⟩
    rw [eLI]; unfold noIn thW; simp only [List.getD_cons_zero, List.getD_cons_succ, Bool.not_not]
    try (cases isRW a <;> simp)
  · exact h.elim
theorem eLI1 (a b c d : Int) (R0 R1 R2 R3 : List (List D)) (K : DV → Prop) : (ask Tryz.prog [(112, sLI)] Tryz.f161 [.agg [vi a, vi b, vi c, vi d], .c (.p 0 [.f 112 [.f 4294967295 [] [.p 0 [.s 0 3 R0 [], .s 0 3 R1 [], .s 0 3 R2 [], .s 0 3 R3 []] 0]] []] 0)] K) = (K (DV.c (D.v (Value.bool !!noIn R0 R1 R2 R3 [a, b, c, d])))) := by kernel_rfl
def sLI1 : Spec := fun ds Q => match ds with | [.agg [.v (.int .i64 a), .v (.int .i64 b), .v (.int .i64 c), .v (.int .i64 d)], .c (.p 0 [.f 112 [.f 4294967295 [] [.p 0 [.s 0 3 R0 [], .s 0 3 R1 [], .s 0 3 R2 [], .s 0 3 R3 []] 0]] []] 0)] => Q (B (noIn R0 R1 R2 R3 [a, b, c, d])) | _ => False
theorem oLI1 : SpecOK Tryz.prog 161 sLI1 := o_of Tryz.func161 (by kernel_rfl) rfl fun ds Q h => by
  unfold sLI1 at h; split at h
  · exact ⟨_, ct_ask (.cons oLI .nil) mixed Tryz.func161 rfl rfl rfl (by rw [eLI1, Bool.not_not]), rfl, rfl, h⟩
  · exact h.elim
def sIXLI (R0 : List (List D)) (R1 : List (List D)) (R2 : List (List D)) (R3 : List (List D)) (R : List (List D)) (sp : List (List D)) (v : Int) (i : Int) : X := ⟨mkT 19 [(0, aS 4 R sp), (1, .c (.d (.f 161 [] [.p 0 [.f 112 [.f 4294967295 [] [.p 0 [.s 0 3 R0 [], .s 0 3 R1 [], .s 0 3 R2 [], .s 0 3 R3 []] 0]] []] 0]))), (4, ai v), (7, ai R.length), (8, ai i)], [], [], []⟩
def v_sIXLI (R0 : List (List D)) (R1 : List (List D)) (R2 : List (List D)) (R3 : List (List D)) (R : List (List D)) (sp : List (List D)) : Vw := fun y K => wI y 4 fun v => wI y 8 fun i => K (sIXLI R0 R1 R2 R3 R sp v i)
theorem v_sIXLI_ok (R0 : List (List D)) (R1 : List (List D)) (R2 : List (List D)) (R3 : List (List D)) (R : List (List D)) (sp : List (List D)) : VwOK (v_sIXLI R0 R1 R2 R3 R sp) := fun y K h => by
  unfold v_sIXLI at h
  obtain ⟨v, h⟩ := wI_ex h
  obtain ⟨i, h⟩ := wI_ex h
  exact ⟨_, h⟩
theorem rIXLI (R0 : List (List D)) (R1 : List (List D)) (R2 : List (List D)) (R3 : List (List D)) (R sp : List (List D)) (i v : Int) (N : X → Prop) (E : Exit → X → Prop) : (roundW Tryz.prog (hkA band bor [(161, sLI1)] []) Tryz.f188 0 [] [0, 1, 4, 7, 8] [] (v_sIXLI R0 R1 R2 R3 R sp) (v_sIXLI R0 R1 R2 R3 R sp) N E (sIXLI R0 R1 R2 R3 R sp v i)) = (bif decide (i < @Nat.cast Int _ (List.length R)) then bif decide (0 ≤ i) && decide (i < @Nat.cast Int _ (List.length R)) then bif isJ [IntKind.i64, IntKind.i64, IntKind.i64, IntKind.i64] (List.drop (0) (List.getD R (Int.toNat i) [])) then bif noIn R0 R1 R2 R3 [hdJ (List.drop (0) (List.getD R (Int.toNat i) [])), hdJ (List.tail (List.drop (0) (List.getD R (Int.toNat i) []))), hdJ (List.tail (List.tail (List.drop (0) (List.getD R (Int.toNat i) [])))), hdJ (List.tail (List.tail (List.tail (List.drop (0) (List.getD R (Int.toNat i) [])))))] then sIXLI R0 R1 R2 R3 R sp i i = sIXLI R0 R1 R2 R3 R sp i i ∧ E Exit.ret (sIXLI R0 R1 R2 R3 R sp i i) else sIXLI R0 R1 R2 R3 R sp v (IntKind.wrap IntKind.i64 (i + 1)) = sIXLI R0 R1 R2 R3 R sp v (IntKind.wrap IntKind.i64 (i + 1)) ∧ N (sIXLI R0 R1 R2 R3 R sp v (IntKind.wrap IntKind.i64 (i + 1))) else False else False else sIXLI R0 R1 R2 R3 R sp v i = sIXLI R0 R1 R2 R3 R sp v i ∧ E (Exit.exit (0)) (sIXLI R0 R1 R2 R3 R sp v i)) := by kernel_rfl
def fIXLI (R0 : List (List D)) (R1 : List (List D)) (R2 : List (List D)) (R3 : List (List D)) (l : List (List Int)) (sp : List (List D)) : LSum := findS [0, 1, 4, 7, 8] [] (fun i => sIXLI R0 R1 R2 R3 (mZ l) sp 0 i) (fun i => sIXLI R0 R1 R2 R3 (mZ l) sp i i) l.length (fun i => noIn R0 R1 R2 R3 (l.getD i [])) .ret (.exit 0)
theorem eIXLI (R0 : List (List D)) (R1 : List (List D)) (R2 : List (List D)) (R3 : List (List D)) (l : List (List Int)) (sp : List (List D)) (K : DV → Prop) : (askL Tryz.prog [] [(2, fIXLI R0 R1 R2 R3 l sp)] Tryz.f188 [dS 4 (mZ l) sp, .c (.f 161 [] [.p 0 [.f 112 [.f 4294967295 [] [.p 0 [.s 0 3 R0 [], .s 0 3 R1 [], .s 0 3 R2 [], .s 0 3 R3 []] 0]] []] 0])] K) = (sIXLI R0 R1 R2 R3 (mZ l) sp (0) (0) = sIXLI R0 R1 R2 R3 (mZ l) sp (0) (0) ∧ (∀ (i : Nat), firstAt (fun i => noIn R0 R1 R2 R3 (List.getD l i [])) (List.length l) i → K (DV.c (D.v (Value.int IntKind.i64 (@Nat.cast Int _ i))))) ∧ (noneTo (fun i => noIn R0 R1 R2 R3 (List.getD l i [])) (List.length l) → K (DV.c (D.v (Value.int IntKind.i64 (-1)))))) := by kernel_rfl
theorem kIXLI (R0 : List (List D)) (R1 : List (List D)) (R2 : List (List D)) (R3 : List (List D)) {l : List (List Int)} {sp : List (List D)} (hw : wid 4 l) (hn : l.length ≤ 9223372036854775807) (Q : Exit → X → Prop) (x : X) (h : fIXLI R0 R1 R2 R3 l sp Q x) : XWP Tryz.prog (.loop (bodyL Tryz.f188 0)) Q x := by
  refine xwp_find (H := hkA band bor [(161, sLI1)] []) (sw := []) (V := v_sIXLI R0 R1 R2 R3 (mZ l) sp) (VE := v_sIXLI R0 R1 R2 R3 (mZ l) sp) (hkl_ok (.cons oLI1 .nil)) mixed (loops_nil rfl) (v_sIXLI_ok R0 R1 R2 R3 (mZ l) sp) (v_sIXLI_ok R0 R1 R2 R3 (mZ l) sp) _ _ _ _ _ _ (fun i hl N E h1 h2 => ?_) (fun N E h1 => ?_) Q x h
  · rw [rIXLI]
    have wi : IntKind.wrap .i64 ((i : Int) + 1) = ((i + 1 : Nat) : Int) := wrap_nat (n := 1) (by omega)
    have hj1 : isJ [IntKind.i64, IntKind.i64, IntKind.i64, IntKind.i64] ((mZ l).getD i []) = true := isJ_mZ (j := 0) (n := 4) hw hl (by omega)
    simp only [mZ_len, Int.ofNat_lt, hl, decide_true, cond_true, Int.natCast_nonneg, Bool.and_self, Int.toNat_natCast, hdJ_mZt1, hdJ_mZt2, hdJ_mZt3, hj1, List.drop_zero, hdJ_mZ0, true_and, wi]
    have e : noIn R0 R1 R2 R3 (l.getD i []) = noIn R0 R1 R2 R3 [(l.getD i []).getD 0 0, (l.getD i []).getD 1 0, (l.getD i []).getD 2 0, (l.getD i []).getD 3 0] := rfl
    cases ho : noIn R0 R1 R2 R3 (l.getD i []) with
    | false => rw [e] at ho; rw [ho]; exact h2 (by rw [e]; exact ho)
    | true => rw [e] at ho; rw [ho]; exact h1 (by rw [e]; exact ho)
  · rw [rIXLI]
    simp only [mZ_len, Int.ofNat_lt, Nat.lt_irrefl, decide_false, cond_false, true_and]
    exact h1
def sIxLI : Spec := fun ds Q => match ds with | [.c (.s 0 4 R sp), .c (.f 161 [] [.p 0 [.f 112 [.f 4294967295 [] [.p 0 [.s 0 3 R0 [], .s 0 3 R1 [], .s 0 3 R2 [], .s 0 3 R3 []] 0]] []] 0])] => cond (okZ 4 R) (Q (I (match (toZ R).findIdx? (noIn R0 R1 R2 R3) with | some i => (i : Int) | none => -1))) False | _ => False
theorem oIxLI : SpecOK Tryz.prog 188 sIxLI := o_of Tryz.func188 (by kernel_rfl) rfl fun ds Q h => by
  unfold sIxLI at h; split at h
  · rename_i R sp R0 R1 R2 R3
    obtain ⟨h1, h2⟩ := cond_P h
    obtain ⟨e1, w1, n1⟩ := okZ_spec h1
    rw [e1]
    rw [← toZ_len R] at n1
    generalize toZ R = l at *
    refine ⟨_, ct_askL (l := []) (m := [(2, fIXLI R0 R1 R2 R3 l sp)]) .nil mixed (loops1 rfl (by kernel_rfl) (kIXLI R0 R1 R2 R3 w1 n1)) Tryz.func188 rfl rfl rfl ?_, rfl, rfl, h2⟩
    rw [eIXLI]
    refine ⟨rfl, fun i hi => ?_, fun hn => ?_⟩
    · rw [hi.find]
    · rw [hn.find]
  · exact h.elim
theorem eCOLI (R0 : List (List D)) (R1 : List (List D)) (R2 : List (List D)) (R3 : List (List D)) (R sp : List (List D)) (K : DV → Prop) : (ask Tryz.prog [(188, sIxLI)] Tryz.f160 [dS 4 R sp, .c (.f 161 [] [.p 0 [.f 112 [.f 4294967295 [] [.p 0 [.s 0 3 R0 [], .s 0 3 R1 [], .s 0 3 R2 [], .s 0 3 R3 []] 0]] []] 0])] K) = (bif okZ (4) R then K (DV.c (D.v (Value.bool (decide ((match List.findIdx? (noIn R0 R1 R2 R3) (toZ R) with | some i => @Nat.cast Int _ i | none => -1) ≥ 0))))) else False) := by kernel_rfl
def sCoLI : Spec := fun ds Q => match ds with | [.c (.s 0 4 R sp), .c (.f 161 [] [.p 0 [.f 112 [.f 4294967295 [] [.p 0 [.s 0 3 R0 [], .s 0 3 R1 [], .s 0 3 R2 [], .s 0 3 R3 []] 0]] []] 0])] => cond (okZ 4 R) (Q (B ((toZ R).any (noIn R0 R1 R2 R3)))) False | _ => False
theorem oCoLI : SpecOK Tryz.prog 160 sCoLI := o_of Tryz.func160 (by kernel_rfl) rfl fun ds Q h => by
  unfold sCoLI at h; split at h
  · obtain ⟨h1, h2⟩ := cond_P h
    refine ⟨_, ct_ask (.cons oIxLI .nil) mixed Tryz.func160 rfl rfl rfl ?_, rfl, rfl, h2⟩
    rw [eCOLI, h1, any_findB]; rfl
  · exact h.elim
theorem eAllLI (R : List (List D)) (R0 R1 R2 R3 : List (List D)) (K : DV → Prop) : (ask Tryz.prog [(160, sCoLI)] Tryz.f111 [.c (.s 0 4 R []), .c (.f 112 [.f 4294967295 [] [.p 0 (wsL R0 R1 R2 R3) 0]] [])] K) = (bif okZ (4) R then K (DV.c (D.v (Value.bool !List.any (toZ R) (noIn R0 R1 R2 R3)))) else False) := by kernel_rfl
def sAllLI : Spec := fun ds Q => match ds with | [.c d, .c e] => cond d.isOwn False (takeS 4 d fun R => takeCl 112 e fun R0 R1 R2 R3 => cond (okZ 4 R) (Q (B (!(toZ R).any (noIn R0 R1 R2 R3)))) False) | _ => False
theorem oAllLI : SpecOK Tryz.prog 111 sAllLI := o_al Tryz.func111 (by kernel_rfl) rfl fun ds Q h => by
  unfold sAllLI at h; split at h
  · rename_i d e
    cases hd : d.isOwn with
    | true => rw [hd] at h; exact h.elim
    | false =>
      rw [hd] at h
      obtain ⟨R, h, r1⟩ := takeS_spec h
      obtain ⟨R0, R1, R2, R3, h, r2, e2⟩ := takeCl_spec (by decide) h
      obtain ⟨h1, h2⟩ := cond_P h
      refine ⟨_, _, .cons (.c r1 hd rfl) (.cons (.c r2 e2 rfl) .nil), ct_ask (.cons oCoLI .nil) mixed Tryz.func111 rfl rfl rfl ?_, rfl, rfl, h2⟩
      rw [eAllLI, h1]; rfl
  · exact h.elim
theorem eLE (a b c d : Int) (K : DV → Prop) : (ask Tryz.prog [(64, sB lab)] Tryz.f63 [.agg [vi a, vi b, vi c, vi d]] K) = (K (DV.c (D.v (Value.bool (lab b))))) := by kernel_rfl
def sLE : Spec := fun ds Q => match ds with | [.agg [.v (.int .i64 a), .v (.int .i64 b), .v (.int .i64 c), .v (.int .i64 d)]] => Q (B (lab b)) | _ => False
theorem oLE : SpecOK Tryz.prog 63 sLE := o_of Tryz.func63 (by kernel_rfl) rfl fun ds Q h => by
  unfold sLE at h; split at h
  · exact ⟨_, ct_ask (.cons oLab .nil) mixed Tryz.func63 rfl rfl rfl (by rw [eLE]), rfl, rfl, h⟩
  · exact h.elim
def noEv (r : List Int) : Bool := !lab (r.getD 1 0)
theorem eLE1 (a b c d : Int) (K : DV → Prop) : (ask Tryz.prog [(63, sLE)] Tryz.f117 [.agg [vi a, vi b, vi c, vi d], .c (.p 0 [.f 63 [] []] 0)] K) = (K (DV.c (D.v (Value.bool !lab b)))) := by kernel_rfl
def sLE1 : Spec := fun ds Q => match ds with | [.agg [.v (.int .i64 a), .v (.int .i64 b), .v (.int .i64 c), .v (.int .i64 d)], .c (.p 0 [.f 63 [] []] 0)] => Q (B (noEv [a, b, c, d])) | _ => False
theorem oLE1 : SpecOK Tryz.prog 117 sLE1 := o_of Tryz.func117 (by kernel_rfl) rfl fun ds Q h => by
  unfold sLE1 at h; split at h
  · exact ⟨_, ct_ask (.cons oLE .nil) mixed Tryz.func117 rfl rfl rfl (by rw [eLE1]; rfl), rfl, rfl, h⟩
  · exact h.elim
def sIXLE (R : List (List D)) (sp : List (List D)) (v : Int) (i : Int) : X := ⟨mkT 19 [(0, aS 4 R sp), (1, .c (.d (.f 117 [] [.p 0 [.f 63 [] []] 0]))), (4, ai v), (7, ai R.length), (8, ai i)], [], [], []⟩
def v_sIXLE (R : List (List D)) (sp : List (List D)) : Vw := fun y K => wI y 4 fun v => wI y 8 fun i => K (sIXLE R sp v i)
theorem v_sIXLE_ok (R : List (List D)) (sp : List (List D)) : VwOK (v_sIXLE R sp) := fun y K h => by
  unfold v_sIXLE at h
  obtain ⟨v, h⟩ := wI_ex h
  obtain ⟨i, h⟩ := wI_ex h
  exact ⟨_, h⟩
theorem rIXLE  (R sp : List (List D)) (i v : Int) (N : X → Prop) (E : Exit → X → Prop) : (roundW Tryz.prog (hkA band bor [(117, sLE1)] []) Tryz.f163 0 [] [0, 1, 4, 7, 8] [] (v_sIXLE  R sp) (v_sIXLE  R sp) N E (sIXLE  R sp v i)) = (bif decide (i < @Nat.cast Int _ (List.length R)) then bif decide (0 ≤ i) && decide (i < @Nat.cast Int _ (List.length R)) then bif isJ [IntKind.i64, IntKind.i64, IntKind.i64, IntKind.i64] (List.drop (0) (List.getD R (Int.toNat i) [])) then bif noEv [hdJ (List.drop (0) (List.getD R (Int.toNat i) [])), hdJ (List.tail (List.drop (0) (List.getD R (Int.toNat i) []))), hdJ (List.tail (List.tail (List.drop (0) (List.getD R (Int.toNat i) [])))), hdJ (List.tail (List.tail (List.tail (List.drop (0) (List.getD R (Int.toNat i) [])))))] then sIXLE R sp i i = sIXLE R sp i i ∧ E Exit.ret (sIXLE R sp i i) else sIXLE R sp v (IntKind.wrap IntKind.i64 (i + 1)) = sIXLE R sp v (IntKind.wrap IntKind.i64 (i + 1)) ∧ N (sIXLE R sp v (IntKind.wrap IntKind.i64 (i + 1))) else False else False else sIXLE R sp v i = sIXLE R sp v i ∧ E (Exit.exit (0)) (sIXLE R sp v i)) := by kernel_rfl
def fIXLE  (l : List (List Int)) (sp : List (List D)) : LSum := findS [0, 1, 4, 7, 8] [] (fun i => sIXLE  (mZ l) sp 0 i) (fun i => sIXLE  (mZ l) sp i i) l.length (fun i => noEv  (l.getD i [])) .ret (.exit 0)
theorem eIXLE  (l : List (List Int)) (sp : List (List D)) (K : DV → Prop) : (askL Tryz.prog [] [(2, fIXLE  l sp)] Tryz.f163 [dS 4 (mZ l) sp, .c (.f 117 [] [.p 0 [.f 63 [] []] 0])] K) = (sIXLE (mZ l) sp (0) (0) = sIXLE (mZ l) sp (0) (0) ∧ (∀ (i : Nat), firstAt (fun i => noEv (List.getD l i [])) (List.length l) i → K (DV.c (D.v (Value.int IntKind.i64 (@Nat.cast Int _ i))))) ∧ (noneTo (fun i => noEv (List.getD l i [])) (List.length l) → K (DV.c (D.v (Value.int IntKind.i64 (-1)))))) := by kernel_rfl
theorem kIXLE  {l : List (List Int)} {sp : List (List D)} (hw : wid 4 l) (hn : l.length ≤ 9223372036854775807) (Q : Exit → X → Prop) (x : X) (h : fIXLE  l sp Q x) : XWP Tryz.prog (.loop (bodyL Tryz.f163 0)) Q x := by
  refine xwp_find (H := hkA band bor [(117, sLE1)] []) (sw := []) (V := v_sIXLE  (mZ l) sp) (VE := v_sIXLE  (mZ l) sp) (hkl_ok (.cons oLE1 .nil)) mixed (loops_nil rfl) (v_sIXLE_ok  (mZ l) sp) (v_sIXLE_ok  (mZ l) sp) _ _ _ _ _ _ (fun i hl N E h1 h2 => ?_) (fun N E h1 => ?_) Q x h
  · rw [rIXLE]
    have wi : IntKind.wrap .i64 ((i : Int) + 1) = ((i + 1 : Nat) : Int) := wrap_nat (n := 1) (by omega)
    have hj1 : isJ [IntKind.i64, IntKind.i64, IntKind.i64, IntKind.i64] ((mZ l).getD i []) = true := isJ_mZ (j := 0) (n := 4) hw hl (by omega)
    simp only [mZ_len, Int.ofNat_lt, hl, decide_true, cond_true, Int.natCast_nonneg, Bool.and_self, Int.toNat_natCast, hdJ_mZt1, hdJ_mZt2, hdJ_mZt3, hj1, List.drop_zero, hdJ_mZ0, true_and, wi]
    have e : noEv  (l.getD i []) = noEv  [(l.getD i []).getD 0 0, (l.getD i []).getD 1 0, (l.getD i []).getD 2 0, (l.getD i []).getD 3 0] := rfl
    cases ho : noEv  (l.getD i []) with
    | false => rw [e] at ho; rw [ho]; exact h2 (by rw [e]; exact ho)
    | true => rw [e] at ho; rw [ho]; exact h1 (by rw [e]; exact ho)
  · rw [rIXLE]
    simp only [mZ_len, Int.ofNat_lt, Nat.lt_irrefl, decide_false, cond_false, true_and]
    exact h1
def sIxLE : Spec := fun ds Q => match ds with | [.c (.s 0 4 R sp), .c (.f 117 [] [.p 0 [.f 63 [] []] 0])] => cond (okZ 4 R) (Q (I (match (toZ R).findIdx? (noEv ) with | some i => (i : Int) | none => -1))) False | _ => False
theorem oIxLE : SpecOK Tryz.prog 163 sIxLE := o_of Tryz.func163 (by kernel_rfl) rfl fun ds Q h => by
  unfold sIxLE at h; split at h
  · rename_i R sp 
    obtain ⟨h1, h2⟩ := cond_P h
    obtain ⟨e1, w1, n1⟩ := okZ_spec h1
    rw [e1]
    rw [← toZ_len R] at n1
    generalize toZ R = l at *
    refine ⟨_, ct_askL (l := []) (m := [(2, fIXLE  l sp)]) .nil mixed (loops1 rfl (by kernel_rfl) (kIXLE  w1 n1)) Tryz.func163 rfl rfl rfl ?_, rfl, rfl, h2⟩
    rw [eIXLE]
    refine ⟨rfl, fun i hi => ?_, fun hn => ?_⟩
    · rw [hi.find]
    · rw [hn.find]
  · exact h.elim
theorem eCOLE  (R sp : List (List D)) (K : DV → Prop) : (ask Tryz.prog [(163, sIxLE)] Tryz.f116 [dS 4 R sp, .c (.f 117 [] [.p 0 [.f 63 [] []] 0])] K) = (bif okZ (4) R then K (DV.c (D.v (Value.bool (decide ((match List.findIdx? noEv (toZ R) with | some i => @Nat.cast Int _ i | none => -1) ≥ 0))))) else False) := by kernel_rfl
def sCoLE : Spec := fun ds Q => match ds with | [.c (.s 0 4 R sp), .c (.f 117 [] [.p 0 [.f 63 [] []] 0])] => cond (okZ 4 R) (Q (B ((toZ R).any (noEv )))) False | _ => False
theorem oCoLE : SpecOK Tryz.prog 116 sCoLE := o_of Tryz.func116 (by kernel_rfl) rfl fun ds Q h => by
  unfold sCoLE at h; split at h
  · obtain ⟨h1, h2⟩ := cond_P h
    refine ⟨_, ct_ask (.cons oIxLE .nil) mixed Tryz.func116 rfl rfl rfl ?_, rfl, rfl, h2⟩
    rw [eCOLE, h1, any_findB]; rfl
  · exact h.elim
theorem eAllLE (R : List (List D)) (K : DV → Prop) : (ask Tryz.prog [(116, sCoLE)] Tryz.f67 [.c (.s 0 4 R []), .c (.f 63 [] [])] K) = (bif okZ (4) R then K (DV.c (D.v (Value.bool !List.any (toZ R) noEv))) else False) := by kernel_rfl
def sAllLE : Spec := fun ds Q => match ds with | [.c d, .c (.f 63 [] [])] => cond d.isOwn False (takeS 4 d fun R => cond (okZ 4 R) (Q (B (!(toZ R).any noEv))) False) | _ => False
theorem oAllLE : SpecOK Tryz.prog 67 sAllLE := o_al Tryz.func67 (by kernel_rfl) rfl fun ds Q h => by
  unfold sAllLE at h; split at h
  · rename_i d
    cases hd : d.isOwn with
    | true => rw [hd] at h; exact h.elim
    | false =>
      rw [hd] at h
      obtain ⟨R, h, r1⟩ := takeS_spec h
      obtain ⟨h1, h2⟩ := cond_P h
      refine ⟨_, _, .cons (.c r1 hd rfl) (.cons (.refl _) .nil), ct_ask (.cons oCoLE .nil) mixed Tryz.func67 rfl rfl rfl ?_, rfl, rfl, h2⟩
      rw [eAllLE, h1]; rfl
  · exact h.elim
theorem eMIn (x m : Int) (K : DV → Prop) : (ask Tryz.prog [] Tryz.f113 [I x, I m] K) = (bif decide (x ≥ 0) then K (DV.c (D.v (Value.bool (decide (x ≤ m))))) else K (DV.c (D.v (Value.bool false)))) := by kernel_rfl
theorem oMIn : SpecOK Tryz.prog 113 sIn := o_of Tryz.func113 (by kernel_rfl) rfl fun ds Q h => by
  unfold sIn at h; split at h
  · refine ⟨_, ct_ask .nil mixed Tryz.func113 rfl rfl rfl ?_, rfl, rfl, h⟩
    rw [eMIn]; rename_i x m; unfold upto; cases decide (x ≥ 0) <;> rfl
  · exact h.elim
def mx (a b : Int) : Int := if b > a then b else a
def mx4 (a b c d : Int) : Int := mx (mx (mx a b) c) d
theorem eMx4 (a b c d : Int) (K : DV → Prop) : (ask Tryz.prog [] Tryz.f62 [.c (.s 0 1 [[vi a], [vi b], [vi c], [vi d]] [])] K) = K (I (mx4 a b c d)) := by kernel_rfl
def sMx : Spec := fun ds Q => match ds with | [.c (.s 0 1 [[.v (.int .i64 a)], [.v (.int .i64 b)], [.v (.int .i64 c)], [.v (.int .i64 d)]] [])] => Q (I (mx4 a b c d)) | _ => False
theorem oMx : SpecOK Tryz.prog 62 sMx := o_of Tryz.func62 (by kernel_rfl) rfl fun ds Q h => by
  unfold sMx at h; split at h
  · rename_i a b c d
    exact ⟨_, ct_ask .nil mixed Tryz.func62 rfl rfl rfl (by rw [eMx4]), rfl, rfl, h⟩
  · exact h.elim
end

section
open Go Go.Proofs
set_option linter.unusedSimpArgs false
set_option linter.unusedVariables false
set_option maxRecDepth 100000
def SesD.on (q : SesD) (p r w : List (List Int)) : SesD := { q with pg := mZ p, rd := mZ r, wt := mZ w }
def okSes (s : SesD) : Bool := okZ 4 s.pg && (okZ 3 s.rd && okZ 3 s.wt)
theorem okSes_spec {s : SesD} (h : okSes s = true) : s = s.on (toZ s.pg) (toZ s.rd) (toZ s.wt) ∧ (wid 4 (toZ s.pg) ∧ (toZ s.pg).length ≤ 9223372036854775807) ∧ (wid 3 (toZ s.rd) ∧ (toZ s.rd).length ≤ 9223372036854775807) ∧ (wid 3 (toZ s.wt) ∧ (toZ s.wt).length ≤ 9223372036854775807) := by
  unfold okSes at h
  simp only [Bool.and_eq_true] at h
  obtain ⟨h1, h2, h3⟩ := h
  obtain ⟨a1, a2, a3⟩ := okZ_spec h1
  obtain ⟨b1, b2, b3⟩ := okZ_spec h2
  obtain ⟨c1, c2, c3⟩ := okZ_spec h3
  refine ⟨?_, ⟨a2, by rw [toZ_len]; exact a3⟩, ⟨b2, by rw [toZ_len]; exact b3⟩, ⟨c2, by rw [toZ_len]; exact c3⟩⟩
  obtain ⟨id, lb, cl, pg, st, pc, r0, r1, r2, r3, rd, wt, at', sp, tr, rs, to⟩ := s
  simp only [SesD.on] at a1 b1 c1 ⊢
  rw [← a1, ← b1, ← c1]
def stWd1 (R0 : List (List D)) (R1 : List (List D)) (R2 : List (List D)) (R3 : List (List D)) (q : SesD) (v : Bool) (i : Int) : X := ⟨mkT 70 [(2, .c (.rp 3 0 4 0 0)), (3, .c (.rp 4 0 17 0 0)), (4, ab v), (5, ai i)], [(3, .bx 0 4 [.d (.s 0 3 R0 []), .d (.s 0 3 R1 []), .d (.s 0 3 R2 []), .d (.s 0 3 R3 [])]), (4, .bx 0 17 ((sesL 0 q).map C.d))], [], []⟩
def v_stWd1 (R0 : List (List D)) (R1 : List (List D)) (R2 : List (List D)) (R3 : List (List D)) (q : SesD) : Vw := fun y K => wB y 4 fun v => wI y 5 fun i => K (stWd1 R0 R1 R2 R3 q v i)
theorem v_stWd1_ok (R0 : List (List D)) (R1 : List (List D)) (R2 : List (List D)) (R3 : List (List D)) (q : SesD) : VwOK (v_stWd1 R0 R1 R2 R3 q) := fun y K h => by
  unfold v_stWd1 at h
  obtain ⟨v, h⟩ := wB_ex h
  obtain ⟨i, h⟩ := wI_ex h
  exact ⟨_, h⟩
theorem rWd1 (R0 : List (List D)) (R1 : List (List D)) (R2 : List (List D)) (R3 : List (List D)) (q : SesD) (v : Bool) (i : Int) (N : X → Prop) (E : Exit → X → Prop) : (roundV Tryz.prog (hkA band bor [(164, sRThr)] []) Tryz.f120 0 [] [2, 3, 4, 5] [3, 4] (v_stWd1 R0 R1 R2 R3 q) (fun _ => v_stWd1 R0 R1 R2 R3 q) N E (stWd1 R0 R1 R2 R3 q v i)) = (bif decide (i < @Nat.cast Int _ (List.length q.pg)) then bif decide (0 ≤ i) && decide (i < @Nat.cast Int _ (List.length q.pg)) then bif isJ [IntKind.i64] (List.drop (0) (List.getD q.pg (Int.toNat i) [])) then bif hdJ (List.drop (0) (List.getD q.pg (Int.toNat i) [])) == 2 then bif decide (0 ≤ i) && decide (i < @Nat.cast Int _ (List.length q.pg)) then bif isJ [IntKind.i64] (List.drop (2) (List.getD q.pg (Int.toNat i) [])) then bif decide (0 ≤ i) && decide (i < @Nat.cast Int _ (List.length q.pg)) then bif isJ [IntKind.i64] (List.drop (3) (List.getD q.pg (Int.toNat i) [])) then bif !thr (List.length R0) (List.length R1) (List.length R2) (List.length R3) (hdJ (List.drop (2) (List.getD q.pg (Int.toNat i) []))) (hdJ (List.drop (3) (List.getD q.pg (Int.toNat i) []))) then stWd1 R0 R1 R2 R3 q false i = stWd1 R0 R1 R2 R3 q false i ∧ E Exit.ret (stWd1 R0 R1 R2 R3 q false i) else stWd1 R0 R1 R2 R3 q v (IntKind.wrap IntKind.i64 (i + 1)) = stWd1 R0 R1 R2 R3 q v (IntKind.wrap IntKind.i64 (i + 1)) ∧ N (stWd1 R0 R1 R2 R3 q v (IntKind.wrap IntKind.i64 (i + 1))) else False else False else False else False else bif hdJ (List.drop (0) (List.getD q.pg (Int.toNat i) [])) == 3 then bif decide (0 ≤ i) && decide (i < @Nat.cast Int _ (List.length q.pg)) then bif isJ [IntKind.i64] (List.drop (2) (List.getD q.pg (Int.toNat i) [])) then bif decide (0 ≤ i) && decide (i < @Nat.cast Int _ (List.length q.pg)) then bif isJ [IntKind.i64] (List.drop (3) (List.getD q.pg (Int.toNat i) [])) then bif !thr (List.length R0) (List.length R1) (List.length R2) (List.length R3) (hdJ (List.drop (2) (List.getD q.pg (Int.toNat i) []))) (hdJ (List.drop (3) (List.getD q.pg (Int.toNat i) []))) then stWd1 R0 R1 R2 R3 q false i = stWd1 R0 R1 R2 R3 q false i ∧ E Exit.ret (stWd1 R0 R1 R2 R3 q false i) else stWd1 R0 R1 R2 R3 q v (IntKind.wrap IntKind.i64 (i + 1)) = stWd1 R0 R1 R2 R3 q v (IntKind.wrap IntKind.i64 (i + 1)) ∧ N (stWd1 R0 R1 R2 R3 q v (IntKind.wrap IntKind.i64 (i + 1))) else False else False else False else False else stWd1 R0 R1 R2 R3 q v (IntKind.wrap IntKind.i64 (i + 1)) = stWd1 R0 R1 R2 R3 q v (IntKind.wrap IntKind.i64 (i + 1)) ∧ N (stWd1 R0 R1 R2 R3 q v (IntKind.wrap IntKind.i64 (i + 1))) else False else False else stWd1 R0 R1 R2 R3 q v i = stWd1 R0 R1 R2 R3 q v i ∧ E (Exit.exit (0)) (stWd1 R0 R1 R2 R3 q v i)) := by kernel_rfl
def fWd1 (a b c d : List (List Int)) (q : SesD) (p r w : List (List Int)) : LSum := findS [2, 3, 4, 5] [3, 4] (fun i => stWd1 (mZ a) (mZ b) (mZ c) (mZ d) (q.on p r w) false i) (fun i => stWd1 (mZ a) (mZ b) (mZ c) (mZ d) (q.on p r w) false i) p.length (fun i => noIn (mZ a) (mZ b) (mZ c) (mZ d) (p.getD i [])) .ret (.exit 0)
theorem kWd1 {a b c d : List (List Int)} {q : SesD} {p r w : List (List Int)} (hw : wid 4 p) (hn : p.length ≤ 9223372036854775807) (Q : Exit → X → Prop) (x : X) (h : fWd1 a b c d q p r w Q x) : XWP Tryz.prog (.loop (bodyL Tryz.f120 0)) Q x := by
  refine xwp_findV (sw := []) (V := v_stWd1 (mZ a) (mZ b) (mZ c) (mZ d) (q.on p r w)) (VE := fun _ => v_stWd1 (mZ a) (mZ b) (mZ c) (mZ d) (q.on p r w)) mixed (v_stWd1_ok (mZ a) (mZ b) (mZ c) (mZ d) (q.on p r w)) (fun _ => v_stWd1_ok (mZ a) (mZ b) (mZ c) (mZ d) (q.on p r w)) _ _ _ _ _ _ (fun i hl => ⟨hkA band bor [(164, sRThr)] [], hkl_ok (.cons oRThr .nil), loops_nil rfl, fun N E h1 h2 => ?_⟩) ⟨hkA band bor [(164, sRThr)] [], hkl_ok (.cons oRThr .nil), loops_nil rfl, fun N E h1 => ?_⟩ Q x h
  · rw [rWd1]
    have wi : IntKind.wrap .i64 ((i : Int) + 1) = ((i + 1 : Nat) : Int) := wrap_nat (n := 1) (by omega)
    have a0 : isJ [IntKind.i64] ((mZ p).getD i []) = true := isJ_mZ (j := 0) (n := 1) hw hl (by omega)
    have a1 : isJ [IntKind.i64] (List.drop 1 ((mZ p).getD i [])) = true := isJ_mZ (j := 1) (n := 1) hw hl (by omega)
    have a2 : isJ [IntKind.i64] (List.drop 2 ((mZ p).getD i [])) = true := isJ_mZ (j := 2) (n := 1) hw hl (by omega)
    have a3 : isJ [IntKind.i64] (List.drop 3 ((mZ p).getD i [])) = true := isJ_mZ (j := 3) (n := 1) hw hl (by omega)
    have a9 : isJ [IntKind.i64, IntKind.i64, IntKind.i64, IntKind.i64] ((mZ p).getD i []) = true := isJ_mZ (j := 0) (n := 4) hw hl (by omega)
    simp only [SesD.on, mZ_len, Int.ofNat_lt, hl, decide_true, cond_true, Int.natCast_nonneg, Bool.and_self, Int.toNat_natCast, a0, a1, a2, a3, a9, List.drop_zero, hdJ_mZ0, hdJ_mZ, hdJ_mZt1, hdJ_mZt2, hdJ_mZt3, true_and, wi] at h1 h2 ⊢
    unfold noIn thW at h1 h2
    simp only [mZ_len] at h1 h2
    unfold isRW at h1 h2
    generalize thr a.length b.length c.length d.length ((p.getD i []).getD 2 0) ((p.getD i []).getD 3 0) = u at h1 h2 ⊢
    cases e2 : ((p.getD i []).getD 0 0 == 2) <;> cases e3 : ((p.getD i []).getD 0 0 == 3) <;> cases u <;> simp only [e2, e3, cond_true, cond_false, Bool.not_true, Bool.not_false, Bool.and_true, Bool.and_false, Bool.true_and, Bool.false_and, forall_const, reduceCtorEq, false_implies] at h1 h2 ⊢ <;> first | exact h1 | exact h2 | exact h1 trivial | exact h2 trivial
  · rw [rWd1]
    simp only [SesD.on, mZ_len, Int.ofNat_lt, Nat.lt_irrefl, decide_false, cond_false, true_and]
    exact h1
def stWd2 (R0 : List (List D)) (R1 : List (List D)) (R2 : List (List D)) (R3 : List (List D)) (q : SesD) (v : Bool) (i : Int) : X := ⟨mkT 70 [(2, .c (.rp 3 0 4 0 0)), (3, .c (.rp 4 0 17 0 0)), (4, ab v), (7, ai i)], [(3, .bx 0 4 [.d (.s 0 3 R0 []), .d (.s 0 3 R1 []), .d (.s 0 3 R2 []), .d (.s 0 3 R3 [])]), (4, .bx 0 17 ((sesL 0 q).map C.d))], [], []⟩
def v_stWd2 (R0 : List (List D)) (R1 : List (List D)) (R2 : List (List D)) (R3 : List (List D)) (q : SesD) : Vw := fun y K => wB y 4 fun v => wI y 7 fun i => K (stWd2 R0 R1 R2 R3 q v i)
theorem v_stWd2_ok (R0 : List (List D)) (R1 : List (List D)) (R2 : List (List D)) (R3 : List (List D)) (q : SesD) : VwOK (v_stWd2 R0 R1 R2 R3 q) := fun y K h => by
  unfold v_stWd2 at h
  obtain ⟨v, h⟩ := wB_ex h
  obtain ⟨i, h⟩ := wI_ex h
  exact ⟨_, h⟩
theorem rWd2 (R0 : List (List D)) (R1 : List (List D)) (R2 : List (List D)) (R3 : List (List D)) (q : SesD) (v : Bool) (i : Int) (N : X → Prop) (E : Exit → X → Prop) : (roundV Tryz.prog (hkA band bor [(164, sRThr)] []) Tryz.f120 1 [] [2, 3, 4, 7] [3, 4] (v_stWd2 R0 R1 R2 R3 q) (fun _ => v_stWd2 R0 R1 R2 R3 q) N E (stWd2 R0 R1 R2 R3 q v i)) = (bif decide (i < @Nat.cast Int _ (List.length q.wt)) then bif decide (0 ≤ i) && decide (i < @Nat.cast Int _ (List.length q.wt)) then bif isJ [IntKind.i64] (List.drop (0) (List.getD q.wt (Int.toNat i) [])) then bif decide (0 ≤ i) && decide (i < @Nat.cast Int _ (List.length q.wt)) then bif isJ [IntKind.i64] (List.drop (1) (List.getD q.wt (Int.toNat i) [])) then bif !thr (List.length R0) (List.length R1) (List.length R2) (List.length R3) (hdJ (List.drop (0) (List.getD q.wt (Int.toNat i) []))) (hdJ (List.drop (1) (List.getD q.wt (Int.toNat i) []))) then stWd2 R0 R1 R2 R3 q false i = stWd2 R0 R1 R2 R3 q false i ∧ E Exit.ret (stWd2 R0 R1 R2 R3 q false i) else stWd2 R0 R1 R2 R3 q v (IntKind.wrap IntKind.i64 (i + 1)) = stWd2 R0 R1 R2 R3 q v (IntKind.wrap IntKind.i64 (i + 1)) ∧ N (stWd2 R0 R1 R2 R3 q v (IntKind.wrap IntKind.i64 (i + 1))) else False else False else False else False else stWd2 R0 R1 R2 R3 q v i = stWd2 R0 R1 R2 R3 q v i ∧ E (Exit.exit (2)) (stWd2 R0 R1 R2 R3 q v i)) := by kernel_rfl
def fWd2 (a b c d : List (List Int)) (q : SesD) (p r w : List (List Int)) : LSum := findS [2, 3, 4, 7] [3, 4] (fun i => stWd2 (mZ a) (mZ b) (mZ c) (mZ d) (q.on p r w) false i) (fun i => stWd2 (mZ a) (mZ b) (mZ c) (mZ d) (q.on p r w) false i) w.length (fun i => noWr (mZ a) (mZ b) (mZ c) (mZ d) (w.getD i [])) .ret (.exit 2)
theorem kWd2 {a b c d : List (List Int)} {q : SesD} {p r w : List (List Int)} (hw : wid 3 w) (hn : w.length ≤ 9223372036854775807) (Q : Exit → X → Prop) (x : X) (h : fWd2 a b c d q p r w Q x) : XWP Tryz.prog (.loop (bodyL Tryz.f120 1)) Q x := by
  refine xwp_findV (sw := []) (V := v_stWd2 (mZ a) (mZ b) (mZ c) (mZ d) (q.on p r w)) (VE := fun _ => v_stWd2 (mZ a) (mZ b) (mZ c) (mZ d) (q.on p r w)) mixed (v_stWd2_ok (mZ a) (mZ b) (mZ c) (mZ d) (q.on p r w)) (fun _ => v_stWd2_ok (mZ a) (mZ b) (mZ c) (mZ d) (q.on p r w)) _ _ _ _ _ _ (fun i hl => ⟨hkA band bor [(164, sRThr)] [], hkl_ok (.cons oRThr .nil), loops_nil rfl, fun N E h1 h2 => ?_⟩) ⟨hkA band bor [(164, sRThr)] [], hkl_ok (.cons oRThr .nil), loops_nil rfl, fun N E h1 => ?_⟩ Q x h
  · rw [rWd2]
    have wi : IntKind.wrap .i64 ((i : Int) + 1) = ((i + 1 : Nat) : Int) := wrap_nat (n := 1) (by omega)
    have a0 : isJ [IntKind.i64] ((mZ w).getD i []) = true := isJ_mZ (j := 0) (n := 1) hw hl (by omega)
    have a1 : isJ [IntKind.i64] (List.drop 1 ((mZ w).getD i [])) = true := isJ_mZ (j := 1) (n := 1) hw hl (by omega)
    have a2 : isJ [IntKind.i64] (List.drop 2 ((mZ w).getD i [])) = true := isJ_mZ (j := 2) (n := 1) hw hl (by omega)
    have a9 : isJ [IntKind.i64, IntKind.i64, IntKind.i64] ((mZ w).getD i []) = true := isJ_mZ (j := 0) (n := 3) hw hl (by omega)
    simp only [SesD.on, mZ_len, Int.ofNat_lt, hl, decide_true, cond_true, Int.natCast_nonneg, Bool.and_self, Int.toNat_natCast, a0, a1, a2, a9, List.drop_zero, hdJ_mZ0, hdJ_mZ, hdJ_mZt1, hdJ_mZt2, hdJ_mZt3, true_and, wi] at h1 h2 ⊢
    unfold noWr thW at h1 h2
    simp only [mZ_len] at h1 h2
    generalize thr a.length b.length c.length d.length ((w.getD i []).getD 0 0) ((w.getD i []).getD 1 0) = u at h1 h2 ⊢
    cases u <;> simp only [cond_true, cond_false, Bool.not_true, Bool.not_false, forall_const, reduceCtorEq, false_implies] at h1 h2 ⊢ <;> first | exact h1 | exact h2 | exact h1 trivial | exact h2 trivial
  · rw [rWd2]
    simp only [SesD.on, mZ_len, Int.ofNat_lt, Nat.lt_irrefl, decide_false, cond_false, true_and]
    exact h1
theorem loopsAB {P : Program} {l : List (FuncId × Spec)} {fn : Func} {k1 k2 : Nat} {s1 s2 : LSum} (hn : (loopsOf (bodyOf fn)).length = 2) (e1 : loopId (bodyL fn 0) = k1) (e2 : loopId (bodyL fn 1) = k2) (hne : Nat.beq k1 k2 = false) (h1 : ∀ Q x, s1 Q x → XWP P (.loop (bodyL fn 0)) Q x) (h2 : ∀ Q x, s2 Q x → XWP P (.loop (bodyL fn 1)) Q x) : LoopsOK P (hkl l [(k1, s1), (k2, s2)]) (bodyOf fn) :=
  loops_ok 2 hn fun i hi s hs Q x hq => by
    match i, hi with
    | 0, _ =>
      rw [e1] at hs
      have hs' : some s1 = some s := by simpa [lookL, hkl, hkA, beq_self] using hs
      cases hs'
      exact h1 Q x hq
    | 1, _ =>
      rw [e2] at hs
      have hs' : some s2 = some s := by simpa [lookL, hkl, hkA, beq_self, hne] using hs
      cases hs'
      exact h2 Q x hq
theorem eWds (a b c d : List (List Int)) (q : SesD) (p r w : List (List Int)) (K : DV → Prop) : (askL Tryz.prog [(164, sRThr), (165, sRT)] [(2, fWd1 a b c d q p r w), (8, fWd2 a b c d q p r w)] Tryz.f120 [.agg (wsL (mZ a) (mZ b) (mZ c) (mZ d)), .agg (sesL 0 (q.on p r w))] K) = (stWd1 (mZ a) (mZ b) (mZ c) (mZ d) { id := q.id, lb := q.lb, cl := q.cl, pg := mZ p, st := q.st, pc := q.pc, r0 := q.r0, r1 := q.r1, r2 := q.r2, r3 := q.r3, rd := mZ r, wt := mZ w, at' := q.at', sp := q.sp, tr := q.tr, rs := q.rs, to := q.to } false (0) = stWd1 (mZ a) (mZ b) (mZ c) (mZ d) { id := q.id, lb := q.lb, cl := q.cl, pg := mZ p, st := q.st, pc := q.pc, r0 := q.r0, r1 := q.r1, r2 := q.r2, r3 := q.r3, rd := mZ r, wt := mZ w, at' := q.at', sp := q.sp, tr := q.tr, rs := q.rs, to := q.to } false (0) ∧ (∀ (i : Nat), firstAt (fun i => noIn (mZ a) (mZ b) (mZ c) (mZ d) (List.getD p i [])) (List.length p) i → K (DV.c (D.v (Value.bool false)))) ∧ (noneTo (fun i => noIn (mZ a) (mZ b) (mZ c) (mZ d) (List.getD p i [])) (List.length p) → stWd2 (mZ a) (mZ b) (mZ c) (mZ d) { id := q.id, lb := q.lb, cl := q.cl, pg := mZ p, st := q.st, pc := q.pc, r0 := q.r0, r1 := q.r1, r2 := q.r2, r3 := q.r3, rd := mZ r, wt := mZ w, at' := q.at', sp := q.sp, tr := q.tr, rs := q.rs, to := q.to } false (0) = stWd2 (mZ a) (mZ b) (mZ c) (mZ d) { id := q.id, lb := q.lb, cl := q.cl, pg := mZ p, st := q.st, pc := q.pc, r0 := q.r0, r1 := q.r1, r2 := q.r2, r3 := q.r3, rd := mZ r, wt := mZ w, at' := q.at', sp := q.sp, tr := q.tr, rs := q.rs, to := q.to } false (0) ∧ (∀ (i : Nat), firstAt (fun i => noWr (mZ a) (mZ b) (mZ c) (mZ d) (List.getD w i [])) (List.length w) i → K (DV.c (D.v (Value.bool false)))) ∧ (noneTo (fun i => noWr (mZ a) (mZ b) (mZ c) (mZ d) (List.getD w i [])) (List.length w) → bif okA (mZ a) (mZ b) (mZ c) (mZ d) && okZ (3) (mZ r) then K (DV.c (D.v (Value.bool (List.all (toZ (mZ r)) (thv (toZ (mZ a)) (toZ (mZ b)) (toZ (mZ c)) (toZ (mZ d))))))) else False))) := by kernel_rfl
end

section
open Go Go.Proofs
set_option linter.unusedSimpArgs false
set_option linter.unusedVariables false
set_option maxRecDepth 100000
def setsB (R0 R1 R2 R3 : List (List D)) (s : SesD) : Bool := rmay (toZ s.rd) && (wrmay (toZ s.wt) && (!(toZ s.rd).any (noRd R0 R1 R2 R3) && (!(toZ s.wt).any (noWr R0 R1 R2 R3) && !(toZ s.pg).any (noIn R0 R1 R2 R3))))
def farB (s : SesD) : Bool := upto s.pc 0 s.pg.length && (upto s.at' 0 s.wt.length && (upto s.st 0 6 && upto s.rs 0 5))
def numB' (s : SesD) : Bool := v4 s.r0 s.r1 s.r2 s.r3 && (clk s.sp && (clk s.tr && val8 s.to))
def sesMay (R0 R1 R2 R3 : List (List D)) (s : SesD) : Bool := smay s.id s.lb s.cl (toZ s.pg) && (setsB R0 R1 R2 R3 s && (farB s && numB' s))
def stL0 (R0 : List (List D)) (R1 : List (List D)) (R2 : List (List D)) (R3 : List (List D)) (s : SesD)  : X := ⟨mkT 97 [(2, .c (.rp 3 0 1 0 0)), (3, .c (.rp 4 0 17 0 0))], [(3, .bx 0 1 [.d (.p 0 (wsL R0 R1 R2 R3) 0)]), (4, .bx 0 17 ((sesL 0 s).map C.d))], [], []⟩
def v_stL0 (R0 : List (List D)) (R1 : List (List D)) (R2 : List (List D)) (R3 : List (List D)) (s : SesD) : Vw := fun y K => K (stL0 R0 R1 R2 R3 s )
theorem v_stL0_ok (R0 : List (List D)) (R1 : List (List D)) (R2 : List (List D)) (R3 : List (List D)) (s : SesD) : VwOK (v_stL0 R0 R1 R2 R3 s) := fun y K h => by
  unfold v_stL0 at h
  exact ⟨_, h⟩
def stL1 (R0 : List (List D)) (R1 : List (List D)) (R2 : List (List D)) (R3 : List (List D)) (s : SesD) (b1 : Bool) : X := ⟨mkT 97 [(2, .c (.rp 3 0 1 0 0)), (3, .c (.rp 4 0 17 0 0)), (5, ab b1)], [(3, .bx 0 1 [.d (.p 0 (wsL R0 R1 R2 R3) 0)]), (4, .bx 0 17 ((sesL 0 s).map C.d))], [], []⟩
def v_stL1 (R0 : List (List D)) (R1 : List (List D)) (R2 : List (List D)) (R3 : List (List D)) (s : SesD) : Vw := fun y K => wB y 5 fun b1 => K (stL1 R0 R1 R2 R3 s b1)
theorem v_stL1_ok (R0 : List (List D)) (R1 : List (List D)) (R2 : List (List D)) (R3 : List (List D)) (s : SesD) : VwOK (v_stL1 R0 R1 R2 R3 s) := fun y K h => by
  unfold v_stL1 at h
  obtain ⟨b1, h⟩ := wB_ex h
  exact ⟨_, h⟩
def stL2 (R0 : List (List D)) (R1 : List (List D)) (R2 : List (List D)) (R3 : List (List D)) (s : SesD) (b1 : Bool) (b2 : Bool) : X := ⟨mkT 97 [(2, .c (.rp 3 0 1 0 0)), (3, .c (.rp 4 0 17 0 0)), (5, ab b1), (6, ab b2)], [(3, .bx 0 1 [.d (.p 0 (wsL R0 R1 R2 R3) 0)]), (4, .bx 0 17 ((sesL 0 s).map C.d))], [], []⟩
def v_stL2 (R0 : List (List D)) (R1 : List (List D)) (R2 : List (List D)) (R3 : List (List D)) (s : SesD) : Vw := fun y K => wB y 5 fun b1 => wB y 6 fun b2 => K (stL2 R0 R1 R2 R3 s b1 b2)
theorem v_stL2_ok (R0 : List (List D)) (R1 : List (List D)) (R2 : List (List D)) (R3 : List (List D)) (s : SesD) : VwOK (v_stL2 R0 R1 R2 R3 s) := fun y K h => by
  unfold v_stL2 at h
  obtain ⟨b1, h⟩ := wB_ex h
  obtain ⟨b2, h⟩ := wB_ex h
  exact ⟨_, h⟩
def stL3 (R0 : List (List D)) (R1 : List (List D)) (R2 : List (List D)) (R3 : List (List D)) (s : SesD) (b1 : Bool) (b2 : Bool) (b3 : Bool) : X := ⟨mkT 97 [(2, .c (.rp 3 0 1 0 0)), (3, .c (.rp 4 0 17 0 0)), (5, ab b1), (6, ab b2), (7, ab b3)], [(3, .bx 0 1 [.d (.p 0 (wsL R0 R1 R2 R3) 0)]), (4, .bx 0 17 ((sesL 0 s).map C.d))], [], []⟩
def v_stL3 (R0 : List (List D)) (R1 : List (List D)) (R2 : List (List D)) (R3 : List (List D)) (s : SesD) : Vw := fun y K => wB y 5 fun b1 => wB y 6 fun b2 => wB y 7 fun b3 => K (stL3 R0 R1 R2 R3 s b1 b2 b3)
theorem v_stL3_ok (R0 : List (List D)) (R1 : List (List D)) (R2 : List (List D)) (R3 : List (List D)) (s : SesD) : VwOK (v_stL3 R0 R1 R2 R3 s) := fun y K h => by
  unfold v_stL3 at h
  obtain ⟨b1, h⟩ := wB_ex h
  obtain ⟨b2, h⟩ := wB_ex h
  obtain ⟨b3, h⟩ := wB_ex h
  exact ⟨_, h⟩
def stL4 (R0 : List (List D)) (R1 : List (List D)) (R2 : List (List D)) (R3 : List (List D)) (s : SesD) (b : Bool) : X := ⟨mkT 97 [(4, ab b)], [], [], []⟩
def v_stL4 (R0 : List (List D)) (R1 : List (List D)) (R2 : List (List D)) (R3 : List (List D)) (s : SesD) : Vw := fun y K => wB y 4 fun b => K (stL4 R0 R1 R2 R3 s b)
theorem v_stL4_ok (R0 : List (List D)) (R1 : List (List D)) (R2 : List (List D)) (R3 : List (List D)) (s : SesD) : VwOK (v_stL4 R0 R1 R2 R3 s) := fun y K h => by
  unfold v_stL4 at h
  obtain ⟨b, h⟩ := wB_ex h
  exact ⟨_, h⟩
theorem eL0 (R0 : List (List D)) (R1 : List (List D)) (R2 : List (List D)) (R3 : List (List D)) (s : SesD) (N : X → Prop) : (stepV Tryz.prog (hk []) (partOf Tryz.f66 0) [2, 3] [3, 4] (v_stL0 R0 R1 R2 R3 s) N (entryX 97 [.agg [.p 0 (wsL R0 R1 R2 R3) 0], .agg (sesL 0 s)])) = (stL0 R0 R1 R2 R3 s = stL0 R0 R1 R2 R3 s ∧ N (stL0 R0 R1 R2 R3 s)) := by kernel_rfl
theorem eL1 (R0 : List (List D)) (R1 : List (List D)) (R2 : List (List D)) (R3 : List (List D)) (s : SesD) (N : X → Prop) : (stepV Tryz.prog (hk [(89, sSMay)]) (partOf Tryz.f66 1) [2, 3, 5] [3, 4] (v_stL1 R0 R1 R2 R3 s) N (stL0 R0 R1 R2 R3 s)) = (bif okZ (4) s.pg then stL1 R0 R1 R2 R3 s (smay s.id s.lb s.cl (toZ s.pg)) = stL1 R0 R1 R2 R3 s (smay s.id s.lb s.cl (toZ s.pg)) ∧ N (stL1 R0 R1 R2 R3 s (smay s.id s.lb s.cl (toZ s.pg))) else False) := by kernel_rfl
theorem eL2 (R0 : List (List D)) (R1 : List (List D)) (R2 : List (List D)) (R3 : List (List D)) (s : SesD) (b1 : Bool) (N : X → Prop) : (stepV Tryz.prog (hk [(105, sRM), (106, sWMy), (107, sAllLR), (109, sAllLW), (111, sAllLI)]) (partOf Tryz.f66 2) [2, 3, 5, 6] [3, 4] (v_stL2 R0 R1 R2 R3 s) N (stL1 R0 R1 R2 R3 s b1)) = (bif okZ (3) s.rd then bif rmay (toZ s.rd) then bif okZ (3) s.wt then bif wrmay (toZ s.wt) then bif okZ (3) s.rd then bif !List.any (toZ s.rd) (noRd R0 R1 R2 R3) then bif okZ (3) s.wt then bif !List.any (toZ s.wt) (noWr R0 R1 R2 R3) then bif okZ (4) s.pg then (stL2 R0 R1 R2 R3 s b1 !List.any (toZ s.pg) (noIn R0 R1 R2 R3)) = stL2 R0 R1 R2 R3 s b1 !List.any (toZ s.pg) (noIn R0 R1 R2 R3) ∧ N (stL2 R0 R1 R2 R3 s b1 !List.any (toZ s.pg) (noIn R0 R1 R2 R3)) else False else stL2 R0 R1 R2 R3 s b1 false = stL2 R0 R1 R2 R3 s b1 false ∧ N (stL2 R0 R1 R2 R3 s b1 false) else False else stL2 R0 R1 R2 R3 s b1 false = stL2 R0 R1 R2 R3 s b1 false ∧ N (stL2 R0 R1 R2 R3 s b1 false) else False else stL2 R0 R1 R2 R3 s b1 false = stL2 R0 R1 R2 R3 s b1 false ∧ N (stL2 R0 R1 R2 R3 s b1 false) else False else stL2 R0 R1 R2 R3 s b1 false = stL2 R0 R1 R2 R3 s b1 false ∧ N (stL2 R0 R1 R2 R3 s b1 false) else False) := by kernel_rfl
theorem eL3 (R0 : List (List D)) (R1 : List (List D)) (R2 : List (List D)) (R3 : List (List D)) (s : SesD) (b1 : Bool) (b2 : Bool) (N : X → Prop) : (stepV Tryz.prog (hk [(113, sIn)]) (partOf Tryz.f66 3) [2, 3, 5, 6, 7] [3, 4] (v_stL3 R0 R1 R2 R3 s) N (stL2 R0 R1 R2 R3 s b1 b2)) = (bif upto s.pc (0) (@Nat.cast Int _ (List.length s.pg)) then bif upto s.at' (0) (@Nat.cast Int _ (List.length s.wt)) then bif upto s.st (0) (6) then stL3 R0 R1 R2 R3 s b1 b2 (upto s.rs (0) (5)) = stL3 R0 R1 R2 R3 s b1 b2 (upto s.rs (0) (5)) ∧ N (stL3 R0 R1 R2 R3 s b1 b2 (upto s.rs (0) (5))) else stL3 R0 R1 R2 R3 s b1 b2 false = stL3 R0 R1 R2 R3 s b1 b2 false ∧ N (stL3 R0 R1 R2 R3 s b1 b2 false) else stL3 R0 R1 R2 R3 s b1 b2 false = stL3 R0 R1 R2 R3 s b1 b2 false ∧ N (stL3 R0 R1 R2 R3 s b1 b2 false) else stL3 R0 R1 R2 R3 s b1 b2 false = stL3 R0 R1 R2 R3 s b1 b2 false ∧ N (stL3 R0 R1 R2 R3 s b1 b2 false)) := by kernel_rfl
theorem eL4 (R0 : List (List D)) (R1 : List (List D)) (R2 : List (List D)) (R3 : List (List D)) (s : SesD) (b1 : Bool) (b2 : Bool) (b3 : Bool) (N : X → Prop) : (stepV Tryz.prog (hk [(114, sRgM), (102, sB clk), (115, sB val8)]) (partOf Tryz.f66 4) [4] [] (v_stL4 R0 R1 R2 R3 s) N (stL3 R0 R1 R2 R3 s b1 b2 b3)) = (bif b1 then bif b2 then bif b3 then bif v4 s.r0 s.r1 s.r2 s.r3 then bif clk s.sp then bif clk s.tr then stL4 R0 R1 R2 R3 s (val8 s.to) = stL4 R0 R1 R2 R3 s (val8 s.to) ∧ N (stL4 R0 R1 R2 R3 s (val8 s.to)) else stL4 R0 R1 R2 R3 s false = stL4 R0 R1 R2 R3 s false ∧ N (stL4 R0 R1 R2 R3 s false) else stL4 R0 R1 R2 R3 s false = stL4 R0 R1 R2 R3 s false ∧ N (stL4 R0 R1 R2 R3 s false) else stL4 R0 R1 R2 R3 s false = stL4 R0 R1 R2 R3 s false ∧ N (stL4 R0 R1 R2 R3 s false) else stL4 R0 R1 R2 R3 s false = stL4 R0 R1 R2 R3 s false ∧ N (stL4 R0 R1 R2 R3 s false) else stL4 R0 R1 R2 R3 s false = stL4 R0 R1 R2 R3 s false ∧ N (stL4 R0 R1 R2 R3 s false) else stL4 R0 R1 R2 R3 s false = stL4 R0 R1 R2 R3 s false ∧ N (stL4 R0 R1 R2 R3 s false)) := by kernel_rfl
theorem eL5 (R0 : List (List D)) (R1 : List (List D)) (R2 : List (List D)) (R3 : List (List D)) (s : SesD) (b : Bool) (K : DV → Prop) : (evp Tryz.prog (hk []) 200 (partOf Tryz.f66 5) (fun e y => match e with | .normal => finX Tryz.prog Tryz.f66 K .normal y | e => finX Tryz.prog Tryz.f66 K e y) (stL4 R0 R1 R2 R3 s b)) = (K (DV.c (D.v (Value.bool b)))) := by kernel_rfl
theorem seqsLS : seqs (bodyOf Tryz.f66) = [partOf Tryz.f66 0, partOf Tryz.f66 1, partOf Tryz.f66 2, partOf Tryz.f66 3, partOf Tryz.f66 4, partOf Tryz.f66 5] := by kernel_rfl
theorem cLS (R0 R1 R2 R3 : List (List D)) (s : SesD) (hs : okSes s = true) : CT Tryz.prog 66 [.agg [.p 0 (wsL R0 R1 R2 R3) 0], .agg (sesL 0 s)] (B (sesMay R0 R1 R2 R3 s)) := by
  unfold okSes at hs
  simp only [Bool.and_eq_true] at hs
  obtain ⟨h1, h2, h3⟩ := hs
  refine ct_ofX Tryz.func66 (c := bodyOf Tryz.f66) rfl (Nat.le_of_ble_eq_true rfl) rfl (xs_sound _ _ _ ?_)
  rw [seqsLS]
  refine xs_step (ts := [2, 3]) (ks := [3, 4]) (hk_ok .nil) mixed loops_none (by simp) (v_stL0_ok R0 R1 R2 R3 s) ?_
  show stepV Tryz.prog _ _ _ _ _ _ (entryX 97 _)
  rw [eL0]
  refine ⟨rfl, xs_step (ts := [2, 3, 5]) (ks := [3, 4]) (hk_ok (.cons oSMay .nil)) mixed loops_none (by simp) (v_stL1_ok R0 R1 R2 R3 s) ?_⟩
  rw [eL1]
  simp only [h1, cond_true]
  refine ⟨trivial, ?_⟩
  generalize hb1 : smay s.id s.lb s.cl (toZ s.pg) = b1
  refine xs_step (ts := [2, 3, 5, 6]) (ks := [3, 4]) (hk_ok (.cons oRM (.cons oWMy (.cons oAllLR (.cons oAllLW (.cons oAllLI .nil)))))) mixed loops_none (by simp) (v_stL2_ok R0 R1 R2 R3 s) ?_
  suffices key2 : XS Tryz.prog [partOf Tryz.f66 3, partOf Tryz.f66 4, partOf Tryz.f66 5] (finX Tryz.prog Tryz.f66 fun r => r = B (sesMay R0 R1 R2 R3 s)) (stL2 R0 R1 R2 R3 s b1 (setsB R0 R1 R2 R3 s)) by
    rw [eL2]
    simp only [h1, h2, h3, cond_true]
    unfold setsB at key2
    cases q1 : rmay (toZ s.rd) <;> cases q2 : wrmay (toZ s.wt) <;> cases q3 : !(toZ s.rd).any (noRd R0 R1 R2 R3) <;> cases q4 : !(toZ s.wt).any (noWr R0 R1 R2 R3) <;> cases q5 : !(toZ s.pg).any (noIn R0 R1 R2 R3) <;>
      simp only [q1, q2, q3, q4, q5, cond_true, cond_false, Bool.and_true, Bool.and_false, Bool.true_and, Bool.false_and, true_and] at key2 ⊢ <;> exact key2
  generalize hb2 : setsB R0 R1 R2 R3 s = b2
  refine xs_step (ts := [2, 3, 5, 6, 7]) (ks := [3, 4]) (hk_ok (.cons oMIn .nil)) mixed loops_none (by simp) (v_stL3_ok R0 R1 R2 R3 s) ?_
  suffices key3 : XS Tryz.prog [partOf Tryz.f66 4, partOf Tryz.f66 5] (finX Tryz.prog Tryz.f66 fun r => r = B (sesMay R0 R1 R2 R3 s)) (stL3 R0 R1 R2 R3 s b1 b2 (farB s)) by
    rw [eL3]
    unfold farB at key3
    cases q1 : upto s.pc 0 s.pg.length <;> cases q2 : upto s.at' 0 s.wt.length <;> cases q3 : upto s.st 0 6 <;> cases q4 : upto s.rs 0 5 <;>
      simp only [q1, q2, q3, q4, cond_true, cond_false, Bool.and_true, Bool.and_false, Bool.true_and, Bool.false_and, true_and] at key3 ⊢ <;> exact key3
  generalize hb3 : farB s = b3
  refine xs_step (ts := [4]) (ks := []) (hk_ok (.cons oRgM (.cons oClk (.cons oVal .nil)))) mixed loops_none (by simp) (v_stL4_ok R0 R1 R2 R3 s) ?_
  suffices key4 : XS Tryz.prog [partOf Tryz.f66 5] (finX Tryz.prog Tryz.f66 fun r => r = B (sesMay R0 R1 R2 R3 s)) (stL4 R0 R1 R2 R3 s (b1 && (b2 && (b3 && numB' s)))) by
    rw [eL4]
    unfold numB' at key4
    cases b1 <;> cases b2 <;> cases b3 <;> cases q1 : v4 s.r0 s.r1 s.r2 s.r3 <;> cases q2 : clk s.sp <;> cases q3 : clk s.tr <;> cases q4 : val8 s.to <;>
      simp only [q1, q2, q3, q4, cond_true, cond_false, Bool.and_true, Bool.and_false, Bool.true_and, Bool.false_and, true_and] at key4 ⊢ <;> exact key4
  refine xs_last (hk_ok .nil) mixed loops_none ?_
  have h5 := eL5 R0 R1 R2 R3 s (b1 && (b2 && (b3 && numB' s))) (fun r => r = B (sesMay R0 R1 R2 R3 s))
  refine h5.mpr ?_
  rw [← hb1, ← hb2, ← hb3]; rfl
end

section
open Go Go.Proofs
set_option linter.unusedSimpArgs false
set_option linter.unusedVariables false
set_option maxRecDepth 100000
def sLS : Spec := fun ds Q => match ds with
  | [.agg [p], e] => takeWP p fun R0 R1 R2 R3 => sesA e fun s => cond (okSes s) (Q (B (sesMay R0 R1 R2 R3 s))) False
  | _ => False
theorem oLS : SpecOK Tryz.prog 66 sLS := o_al Tryz.func66 (by kernel_rfl) rfl fun ds Q h => by
  unfold sLS at h; split at h
  · obtain ⟨R0, R1, R2, R3, h, r1, e1⟩ := takeWP_spec h
    obtain ⟨s, h, r2⟩ := sesA_spec h
    obtain ⟨h1, h2⟩ := cond_P h
    exact ⟨_, _, .cons (.agg (.cons r1 .nil) (by simp [e1]) rfl) (.cons r2 .nil), cLS R0 R1 R2 R3 s h1, rfl, rfl, h2⟩
  · exact h.elim
theorem eA1S (R0 R1 R2 R3 : List (List D)) (s : SesD) (K : DV → Prop) : (ask Tryz.prog [(66, sLS)] Tryz.f104 [.agg (sesL 0 s), .c (.p 0 [.f 66 [.f AG [] [.p 0 (wsL R0 R1 R2 R3) 0]] []] 0)] K) = (bif okSes s then K (DV.c (D.v (Value.bool !sesMay R0 R1 R2 R3 s))) else False) := by kernel_rfl
def sA1S : Spec := fun ds Q => match ds with
  | [e, .c (.p _ [c] 0)] => sesA e fun s => takeCl 66 c fun R0 R1 R2 R3 => cond (okSes s) (Q (B (!sesMay R0 R1 R2 R3 s))) False
  | _ => False
theorem oA1S : SpecOK Tryz.prog 104 sA1S := o_al Tryz.func104 (by kernel_rfl) rfl fun ds Q h => by
  unfold sA1S at h; split at h
  · obtain ⟨s, h, r2⟩ := sesA_spec h
    obtain ⟨R0, R1, R2, R3, h, r1, e1⟩ := takeCl_spec (by decide) h
    obtain ⟨h1, h2⟩ := cond_P h
    exact ⟨_, _, .cons r2 (.cons (.c (RD.cells (t' := 0) (.cons r1 .nil)) rfl rfl) .nil), ct_ask (.cons oLS .nil) mixed Tryz.func104 rfl rfl rfl (by rw [eA1S, h1]; rfl), rfl, rfl, h2⟩
  · exact h.elim
def iIxS : Inl := inlB Tryz.prog band bor [(104, sA1S)] [] [] Tryz.f152
def iCoS : Inl := inlB Tryz.prog band bor [] [] [(152, iIxS)] Tryz.f103
theorem iIxS_ok : InlOK Tryz.prog 152 iIxS := inlB_ok (.cons oA1S .nil) .nil .nil mixed Tryz.func152 rfl (goes_of Tryz.func152 (by kernel_rfl) rfl)
theorem iCoS_ok : InlOK Tryz.prog 103 iCoS := inlB_ok .nil .nil (.cons iIxS_ok .nil) mixed Tryz.func103 rfl (goes_of Tryz.func103 (by kernel_rfl) rfl)
theorem bifN (p q : Bool) (x : DV) : (bif !p then (DV.c (.v (.bool false)) = x) else (DV.c (.v (.bool q)) = x)) = (DV.c (.v (.bool (p && q))) = x) := by cases p <;> rfl
theorem eAllS0 (R0 R1 R2 R3 : List (List D)) (K : DV → Prop) : (askX Tryz.prog band bor [] [] [(103, iCoS)] Tryz.f65 [.c (.s 0 17 ([].map (sesL 0)) []), .c (.f 66 [.f AG [] [.p 0 (wsL R0 R1 R2 R3) 0]] [])] K) = (K (DV.c (D.v (Value.bool true)))) := by kernel_rfl
theorem eAllS1 (R0 R1 R2 R3 : List (List D)) (s0 : SesD) (K : DV → Prop) : (askX Tryz.prog band bor [] [] [(103, iCoS)] Tryz.f65 [.c (.s 0 17 ([s0].map (sesL 0)) []), .c (.f 66 [.f AG [] [.p 0 (wsL R0 R1 R2 R3) 0]] [])] K) = (bif okSes s0 then bif !sesMay R0 R1 R2 R3 s0 then K (DV.c (D.v (Value.bool false))) else K (DV.c (D.v (Value.bool true))) else False) := by kernel_rfl
theorem eAllS2 (R0 R1 R2 R3 : List (List D)) (s0 s1 : SesD) (K : DV → Prop) : (askX Tryz.prog band bor [] [] [(103, iCoS)] Tryz.f65 [.c (.s 0 17 ([s0, s1].map (sesL 0)) []), .c (.f 66 [.f AG [] [.p 0 (wsL R0 R1 R2 R3) 0]] [])] K) = (bif okSes s0 then bif !sesMay R0 R1 R2 R3 s0 then K (DV.c (D.v (Value.bool false))) else bif okSes s1 then bif !sesMay R0 R1 R2 R3 s1 then K (DV.c (D.v (Value.bool false))) else K (DV.c (D.v (Value.bool true))) else False else False) := by kernel_rfl
theorem eAllS3 (R0 R1 R2 R3 : List (List D)) (s0 s1 s2 : SesD) (K : DV → Prop) : (askX Tryz.prog band bor [] [] [(103, iCoS)] Tryz.f65 [.c (.s 0 17 ([s0, s1, s2].map (sesL 0)) []), .c (.f 66 [.f AG [] [.p 0 (wsL R0 R1 R2 R3) 0]] [])] K) = (bif okSes s0 then bif !sesMay R0 R1 R2 R3 s0 then K (DV.c (D.v (Value.bool false))) else bif okSes s1 then bif !sesMay R0 R1 R2 R3 s1 then K (DV.c (D.v (Value.bool false))) else bif okSes s2 then bif !sesMay R0 R1 R2 R3 s2 then K (DV.c (D.v (Value.bool false))) else K (DV.c (D.v (Value.bool true))) else False else False else False) := by kernel_rfl
theorem eAllS4 (R0 R1 R2 R3 : List (List D)) (s0 s1 s2 s3 : SesD) (K : DV → Prop) : (askX Tryz.prog band bor [] [] [(103, iCoS)] Tryz.f65 [.c (.s 0 17 ([s0, s1, s2, s3].map (sesL 0)) []), .c (.f 66 [.f AG [] [.p 0 (wsL R0 R1 R2 R3) 0]] [])] K) = (bif okSes s0 then bif !sesMay R0 R1 R2 R3 s0 then K (DV.c (D.v (Value.bool false))) else bif okSes s1 then bif !sesMay R0 R1 R2 R3 s1 then K (DV.c (D.v (Value.bool false))) else bif okSes s2 then bif !sesMay R0 R1 R2 R3 s2 then K (DV.c (D.v (Value.bool false))) else bif okSes s3 then bif !sesMay R0 R1 R2 R3 s3 then K (DV.c (D.v (Value.bool false))) else K (DV.c (D.v (Value.bool true))) else False else False else False else False) := by kernel_rfl
def okSS (ss : List SesD) : Bool := ss.all okSes
theorem cAllS (R0 R1 R2 R3 : List (List D)) : ∀ (ss : List SesD), ss.length ≤ 4 → okSS ss = true → CT Tryz.prog 65 [.c (.s 0 17 (ss.map (sesL 0)) []), .c (.f 66 [.f AG [] [.p 0 (wsL R0 R1 R2 R3) 0]] [])] (B (ss.all (sesMay R0 R1 R2 R3))) := by
  intro ss hl hok
  unfold okSS at hok
  rcases ss with _ | ⟨s0, _ | ⟨s1, _ | ⟨s2, _ | ⟨s3, _ | ⟨s4, l⟩⟩⟩⟩⟩
  · refine ct_x .nil .nil (.cons iCoS_ok .nil) mixed Tryz.func65 rfl rfl rfl ?_
    rw [eAllS0]
    refine ⟨?_⟩
    simp only [List.all_cons, List.all_nil, Bool.and_eq_true, Bool.and_true] at hok
    simp only [hok, cond_true, List.all_cons, List.all_nil, bifN, Bool.and_true, Bool.and_assoc]
  · refine ct_x .nil .nil (.cons iCoS_ok .nil) mixed Tryz.func65 rfl rfl rfl ?_
    rw [eAllS1]
    refine ⟨?_⟩
    simp only [List.all_cons, List.all_nil, Bool.and_eq_true, Bool.and_true] at hok
    simp only [hok, cond_true, List.all_cons, List.all_nil, bifN, Bool.and_true, Bool.and_assoc]
  · refine ct_x .nil .nil (.cons iCoS_ok .nil) mixed Tryz.func65 rfl rfl rfl ?_
    rw [eAllS2]
    refine ⟨?_⟩
    simp only [List.all_cons, List.all_nil, Bool.and_eq_true, Bool.and_true] at hok
    simp only [hok, cond_true, List.all_cons, List.all_nil, bifN, Bool.and_true, Bool.and_assoc]
  · refine ct_x .nil .nil (.cons iCoS_ok .nil) mixed Tryz.func65 rfl rfl rfl ?_
    rw [eAllS3]
    refine ⟨?_⟩
    simp only [List.all_cons, List.all_nil, Bool.and_eq_true, Bool.and_true] at hok
    simp only [hok, cond_true, List.all_cons, List.all_nil, bifN, Bool.and_true, Bool.and_assoc]
  · refine ct_x .nil .nil (.cons iCoS_ok .nil) mixed Tryz.func65 rfl rfl rfl ?_
    rw [eAllS4]
    refine ⟨?_⟩
    simp only [List.all_cons, List.all_nil, Bool.and_eq_true, Bool.and_true] at hok
    simp only [hok, cond_true, List.all_cons, List.all_nil, bifN, Bool.and_true, Bool.and_assoc]
  · simp at hl
def sAllS : Spec := fun ds Q => match ds with
  | [.c d, .c e] => cond d.isOwn False (takeSS d fun ss => takeCl 66 e fun R0 R1 R2 R3 => cond (Nat.ble ss.length 4 && okSS ss) (Q (B (ss.all (sesMay R0 R1 R2 R3)))) False)
  | _ => False
theorem oAllS : SpecOK Tryz.prog 65 sAllS := o_al Tryz.func65 (by kernel_rfl) rfl fun ds Q h => by
  unfold sAllS at h; split at h
  · rename_i d e
    cases hd : d.isOwn with
    | true => rw [hd] at h; exact h.elim
    | false =>
      rw [hd] at h
      obtain ⟨ss, h, r1⟩ := takeSS_spec h
      obtain ⟨R0, R1, R2, R3, h, r2, e2⟩ := takeCl_spec (by decide) h
      obtain ⟨h1, h2⟩ := cond_P h
      rw [Bool.and_eq_true] at h1
      exact ⟨_, _, .cons (.c r1 hd rfl) (.cons (.c r2 e2 rfl) .nil), cAllS R0 R1 R2 R3 ss (Nat.le_of_ble_eq_true h1.1) h1.2, rfl, rfl, h2⟩
  · exact h.elim
def idsUp : List SesD → Bool
  | a :: b :: l => !decide (a.id ≥ b.id) && idsUp (b :: l)
  | _ => true
def clkB (h : Mh) : Bool := ck4 h.c0 h.c1 h.c2 h.c3 && clk h.ce
def mmay (h : Mh) (ss : List SesD) : Bool := amay (toZ h.w0) (toZ h.w1) (toZ h.w2) (toZ h.w3) && (clkB h && (!decide (mx4 h.c0 h.c1 h.c2 h.c3 > h.ce) && (!decide ((ss.length : Int) > 4) && (!decide ((h.tr.length : Int) > 512) && (idsUp ss && (ss.all (sesMay h.w0 h.w1 h.w2 h.w3) && !(toZ h.tr).any noEv))))))
def okM (h : Mh) (ss : List SesD) : Bool := okA h.w0 h.w1 h.w2 h.w3 && (okZ 4 h.tr && okSS ss)
theorem eMM0 (h : Mh) (K : DV → Prop) : (ask Tryz.prog [(60, sAMay), (61, sCkM), (62, sMx), (65, sAllS), (67, sAllLE)] Tryz.f26 [.agg (macL 0 h [])] K) = (bif okA h.w0 h.w1 h.w2 h.w3 then bif !amay (toZ h.w0) (toZ h.w1) (toZ h.w2) (toZ h.w3) then K (DV.c (D.v (Value.bool false))) else bif !(ck4 h.c0 h.c1 h.c2 h.c3 && clk h.ce) then K (DV.c (D.v (Value.bool false))) else bif decide (mx4 h.c0 h.c1 h.c2 h.c3 > h.ce) then K (DV.c (D.v (Value.bool false))) else bif decide (@Nat.cast Int _ (List.length h.tr) > 512) then K (DV.c (D.v (Value.bool false))) else bif okZ (4) h.tr then K (DV.c (D.v (Value.bool !List.any (toZ h.tr) noEv))) else False else False) := by kernel_rfl
theorem eMM1 (h : Mh) (s0 : SesD) (K : DV → Prop) : (ask Tryz.prog [(60, sAMay), (61, sCkM), (62, sMx), (65, sAllS), (67, sAllLE)] Tryz.f26 [.agg (macL 0 h [s0])] K) = (bif okA h.w0 h.w1 h.w2 h.w3 then bif !amay (toZ h.w0) (toZ h.w1) (toZ h.w2) (toZ h.w3) then K (DV.c (D.v (Value.bool false))) else bif !(ck4 h.c0 h.c1 h.c2 h.c3 && clk h.ce) then K (DV.c (D.v (Value.bool false))) else bif decide (mx4 h.c0 h.c1 h.c2 h.c3 > h.ce) then K (DV.c (D.v (Value.bool false))) else bif decide (@Nat.cast Int _ (List.length h.tr) > 512) then K (DV.c (D.v (Value.bool false))) else bif Nat.ble (1) (OfNat.ofNat (4)) && okSS [s0] then bif List.all [s0] (sesMay h.w0 h.w1 h.w2 h.w3) then bif okZ (4) h.tr then K (DV.c (D.v (Value.bool !List.any (toZ h.tr) noEv))) else False else K (DV.c (D.v (Value.bool false))) else False else False) := by kernel_rfl
theorem eMM2 (h : Mh) (s0 s1 : SesD) (K : DV → Prop) : (ask Tryz.prog [(60, sAMay), (61, sCkM), (62, sMx), (65, sAllS), (67, sAllLE)] Tryz.f26 [.agg (macL 0 h [s0, s1])] K) = (bif okA h.w0 h.w1 h.w2 h.w3 then bif !amay (toZ h.w0) (toZ h.w1) (toZ h.w2) (toZ h.w3) then K (DV.c (D.v (Value.bool false))) else bif !(ck4 h.c0 h.c1 h.c2 h.c3 && clk h.ce) then K (DV.c (D.v (Value.bool false))) else bif decide (mx4 h.c0 h.c1 h.c2 h.c3 > h.ce) then K (DV.c (D.v (Value.bool false))) else bif decide (@Nat.cast Int _ (List.length h.tr) > 512) then K (DV.c (D.v (Value.bool false))) else bif decide (s0.id ≥ s1.id) then K (DV.c (D.v (Value.bool false))) else bif Nat.ble (2) (OfNat.ofNat (4)) && okSS [s0, s1] then bif List.all [s0, s1] (sesMay h.w0 h.w1 h.w2 h.w3) then bif okZ (4) h.tr then K (DV.c (D.v (Value.bool !List.any (toZ h.tr) noEv))) else False else K (DV.c (D.v (Value.bool false))) else False else False) := by kernel_rfl
theorem eMM3 (h : Mh) (s0 s1 s2 : SesD) (K : DV → Prop) : (ask Tryz.prog [(60, sAMay), (61, sCkM), (62, sMx), (65, sAllS), (67, sAllLE)] Tryz.f26 [.agg (macL 0 h [s0, s1, s2])] K) = (bif okA h.w0 h.w1 h.w2 h.w3 then bif !amay (toZ h.w0) (toZ h.w1) (toZ h.w2) (toZ h.w3) then K (DV.c (D.v (Value.bool false))) else bif !(ck4 h.c0 h.c1 h.c2 h.c3 && clk h.ce) then K (DV.c (D.v (Value.bool false))) else bif decide (mx4 h.c0 h.c1 h.c2 h.c3 > h.ce) then K (DV.c (D.v (Value.bool false))) else bif decide (@Nat.cast Int _ (List.length h.tr) > 512) then K (DV.c (D.v (Value.bool false))) else bif decide (s0.id ≥ s1.id) then K (DV.c (D.v (Value.bool false))) else bif decide (s1.id ≥ s2.id) then K (DV.c (D.v (Value.bool false))) else bif Nat.ble (3) (OfNat.ofNat (4)) && okSS [s0, s1, s2] then bif List.all [s0, s1, s2] (sesMay h.w0 h.w1 h.w2 h.w3) then bif okZ (4) h.tr then K (DV.c (D.v (Value.bool !List.any (toZ h.tr) noEv))) else False else K (DV.c (D.v (Value.bool false))) else False else False) := by kernel_rfl
theorem eMM4 (h : Mh) (s0 s1 s2 s3 : SesD) (K : DV → Prop) : (ask Tryz.prog [(60, sAMay), (61, sCkM), (62, sMx), (65, sAllS), (67, sAllLE)] Tryz.f26 [.agg (macL 0 h [s0, s1, s2, s3])] K) = (bif okA h.w0 h.w1 h.w2 h.w3 then bif !amay (toZ h.w0) (toZ h.w1) (toZ h.w2) (toZ h.w3) then K (DV.c (D.v (Value.bool false))) else bif !(ck4 h.c0 h.c1 h.c2 h.c3 && clk h.ce) then K (DV.c (D.v (Value.bool false))) else bif decide (mx4 h.c0 h.c1 h.c2 h.c3 > h.ce) then K (DV.c (D.v (Value.bool false))) else bif decide (@Nat.cast Int _ (List.length h.tr) > 512) then K (DV.c (D.v (Value.bool false))) else bif decide (s0.id ≥ s1.id) then K (DV.c (D.v (Value.bool false))) else bif decide (s1.id ≥ s2.id) then K (DV.c (D.v (Value.bool false))) else bif decide (s2.id ≥ s3.id) then K (DV.c (D.v (Value.bool false))) else bif Nat.ble (4) (OfNat.ofNat (4)) && okSS [s0, s1, s2, s3] then bif List.all [s0, s1, s2, s3] (sesMay h.w0 h.w1 h.w2 h.w3) then bif okZ (4) h.tr then K (DV.c (D.v (Value.bool !List.any (toZ h.tr) noEv))) else False else K (DV.c (D.v (Value.bool false))) else False else False) := by kernel_rfl
theorem eMMB (h : Mh) (R sp : List (List D)) (K : DV → Prop) : (askL Tryz.prog [(60, sAMay), (61, sCkM), (62, sMx)] [(4, fun _ _ => False)] Tryz.f26 [.agg [.s 0 3 h.w0 [], .s 0 3 h.w1 [], .s 0 3 h.w2 [], .s 0 3 h.w3 [], vN h.c0, vN h.c1, vN h.c2, vN h.c3, vN h.ce, .s 0 17 R sp, .s 0 4 h.tr []]] K) = (bif okA h.w0 h.w1 h.w2 h.w3 then bif !amay (toZ h.w0) (toZ h.w1) (toZ h.w2) (toZ h.w3) then K (DV.c (D.v (Value.bool false))) else bif !(ck4 h.c0 h.c1 h.c2 h.c3 && clk h.ce) then K (DV.c (D.v (Value.bool false))) else bif decide (mx4 h.c0 h.c1 h.c2 h.c3 > h.ce) then K (DV.c (D.v (Value.bool false))) else bif decide (@Nat.cast Int _ (List.length R) > 4) then K (DV.c (D.v (Value.bool false))) else bif decide (@Nat.cast Int _ (List.length h.tr) > 512) then K (DV.c (D.v (Value.bool false))) else False else False) := by kernel_rfl
theorem bifP (p q : Bool) (x : DV) : (bif p then (DV.c (.v (.bool false)) = x) else (DV.c (.v (.bool q)) = x)) = (DV.c (.v (.bool (!p && q))) = x) := by cases p <;> rfl
theorem loops_no {P : Program} {l : List (FuncId × Spec)} {k : Nat} {c : Code} : LoopsOK P (hkl l [(k, fun _ _ => False)]) c := fun b hb s hs Q x hq => by
  have hs' : lookL [(k, fun _ _ => False)] (loopId b) = some s := hs
  unfold lookL at hs'
  split at hs'
  · cases hs'; exact hq.elim
  · cases hs'
theorem okM_spec {h : Mh} {ss : List SesD} (hm : okM h ss = true) : okA h.w0 h.w1 h.w2 h.w3 = true ∧ okZ 4 h.tr = true ∧ okSS ss = true := by
  unfold okM at hm; simpa [Bool.and_eq_true] using hm
theorem cMMay (h : Mh) (ss : List SesD) (hok : okM h ss = true) : CT Tryz.prog 26 [.agg (macL 0 h ss)] (B (mmay h ss)) := by
  obtain ⟨h1, h2, h3⟩ := okM_spec hok
  rcases ss with _ | ⟨s0, _ | ⟨s1, _ | ⟨s2, _ | ⟨s3, _ | ⟨s4, l⟩⟩⟩⟩⟩
  · refine ct_s (.cons oAMay (.cons oCkM (.cons oMx (.cons oAllS (.cons oAllLE .nil))))) mixed Tryz.func26 rfl rfl rfl ?_
    rw [eMM0]
    refine ⟨?_⟩
    simp only [h1, h2, h3, cond_true, bifN, bifP, bifK, Bool.and_true, (by decide : Nat.ble 0 4 = true), Bool.true_and]
    unfold mmay clkB
    simp [idsUp, Bool.and_assoc]
  · refine ct_s (.cons oAMay (.cons oCkM (.cons oMx (.cons oAllS (.cons oAllLE .nil))))) mixed Tryz.func26 rfl rfl rfl ?_
    rw [eMM1]
    refine ⟨?_⟩
    simp only [h1, h2, h3, cond_true, bifN, bifP, bifK, Bool.and_true, (by decide : Nat.ble 1 4 = true), Bool.true_and]
    unfold mmay clkB
    simp [idsUp, Bool.and_assoc]
  · refine ct_s (.cons oAMay (.cons oCkM (.cons oMx (.cons oAllS (.cons oAllLE .nil))))) mixed Tryz.func26 rfl rfl rfl ?_
    rw [eMM2]
    refine ⟨?_⟩
    simp only [h1, h2, h3, cond_true, bifN, bifP, bifK, Bool.and_true, (by decide : Nat.ble 2 4 = true), Bool.true_and]
    unfold mmay clkB
    simp [idsUp, Bool.and_assoc]
  · refine ct_s (.cons oAMay (.cons oCkM (.cons oMx (.cons oAllS (.cons oAllLE .nil))))) mixed Tryz.func26 rfl rfl rfl ?_
    rw [eMM3]
    refine ⟨?_⟩
    simp only [h1, h2, h3, cond_true, bifN, bifP, bifK, Bool.and_true, (by decide : Nat.ble 3 4 = true), Bool.true_and]
    unfold mmay clkB
    simp [idsUp, Bool.and_assoc]
  · refine ct_s (.cons oAMay (.cons oCkM (.cons oMx (.cons oAllS (.cons oAllLE .nil))))) mixed Tryz.func26 rfl rfl rfl ?_
    rw [eMM4]
    refine ⟨?_⟩
    simp only [h1, h2, h3, cond_true, bifN, bifP, bifK, Bool.and_true, (by decide : Nat.ble 4 4 = true), Bool.true_and]
    unfold mmay clkB
    simp [idsUp, Bool.and_assoc]
  · refine ct_sL (l := [(60, sAMay), (61, sCkM), (62, sMx)]) (m := [(4, fun _ _ => False)]) (.cons oAMay (.cons oCkM (.cons oMx .nil))) mixed loops_no Tryz.func26 rfl rfl rfl ?_
    unfold macL
    rw [eMMB]
    refine ⟨?_⟩
    have h5 : decide (((List.map (sesL 0) (s0 :: s1 :: s2 :: s3 :: s4 :: l)).length : Int) > 4) = true := by simp; omega
    have h6 : decide (((s0 :: s1 :: s2 :: s3 :: s4 :: l).length : Int) > 4) = true := by simp; omega
    unfold mmay clkB
    simp only [h1, h5, h6, cond_true, bifN, bifP, Bool.not_true, Bool.false_and, Bool.not_not]
theorem eThe (h : Mh) (ss : List SesD) (at' : Int) (K : DV → Prop) : (ask Tryz.prog [(26, sAtD [.agg (macL 0 h ss)] (B (mmay h ss)))] Tryz.f52 [.c (.p 0 (macL 0 h ss) 0), I at'] K) = ([DV.agg (macL (0) h ss)] = [DV.agg (macL (0) h ss)] ∧ bif mmay h ss then bif decide (at' ≥ 0) then K (DV.c (D.v (Value.bool (decide (at' < @Nat.cast Int _ (List.length (List.map (sesL (0)) ss))))))) else K (DV.c (D.v (Value.bool false))) else K (DV.c (D.v (Value.bool false)))) := by kernel_rfl
def mthere (h : Mh) (ss : List SesD) (i : Int) : Bool := mmay h ss && (decide (i ≥ 0) && decide (i < ss.length))
theorem gMMay : Goes Tryz.prog 26 := goes_of Tryz.func26 (by kernel_rfl) rfl
theorem cThe (h : Mh) (ss : List SesD) (i : Int) (hok : okM h ss = true) : CT Tryz.prog 52 [.c (.p 0 (macL 0 h ss) 0), I i] (B (mthere h ss i)) := by
  refine ct_s (.cons (oAtD gMMay (cMMay h ss hok) rfl rfl) .nil) mixed Tryz.func52 rfl rfl rfl ?_
  rw [eThe]
  refine ⟨rfl, ?_⟩
  unfold mthere
  rw [List.length_map]
  simp only [bifK]
end

section
open Go Go.Proofs
set_option linter.unusedSimpArgs false
set_option linter.unusedVariables false
set_option maxRecDepth 100000
def iIxI : Inl := inlM Tryz.prog [] [] [] Tryz.f179
theorem iIxI_ok : InlOK Tryz.prog 179 iIxI := inlM_ok .nil .nil .nil mixed Tryz.func179 rfl (goes_of Tryz.func179 (by kernel_rfl) rfl)
theorem eHas1 (a x : Int) (K : DV → Prop) : (askH Tryz.prog (hkM [] [] [(179, iIxI)]) Tryz.f134 [.c (.s 0 1 [[vi a]] []), I x] K) = (bif x == a then K (DV.c (D.v (Value.bool true))) else K (DV.c (D.v (Value.bool false)))) := by kernel_rfl
theorem eHas3 (a b c x : Int) (K : DV → Prop) : (askH Tryz.prog (hkM [] [] [(179, iIxI)]) Tryz.f134 [.c (.s 0 1 [[vi a], [vi b], [vi c]] []), I x] K) = (bif x == a then K (DV.c (D.v (Value.bool true))) else bif x == b then K (DV.c (D.v (Value.bool true))) else bif x == c then K (DV.c (D.v (Value.bool true))) else K (DV.c (D.v (Value.bool false)))) := by kernel_rfl
def has1 (a x : Int) : Bool := bif x == a then true else false
def has3 (a b c x : Int) : Bool := bif x == a then true else bif x == b then true else bif x == c then true else false
def sHas : Spec := fun ds Q => match ds with
  | [.c (.s 0 1 [[.v (.int .i64 a)]] []), .c (.v (.int .i64 x))] => Q (B (has1 a x))
  | [.c (.s 0 1 [[.v (.int .i64 a)], [.v (.int .i64 b)], [.v (.int .i64 c)]] []), .c (.v (.int .i64 x))] => Q (B (has3 a b c x))
  | _ => False
theorem oHas : SpecOK Tryz.prog 134 sHas := o_of Tryz.func134 (by kernel_rfl) rfl fun ds Q h => by
  unfold sHas at h; split at h
  · rename_i a x
    refine ⟨_, ct_m .nil .nil (.cons iIxI_ok .nil) mixed Tryz.func134 rfl rfl rfl ?_, rfl, rfl, h⟩
    rw [eHas1]
    refine ⟨?_⟩
    unfold has1; cases x == a <;> rfl
  · rename_i a b c x
    refine ⟨_, ct_m .nil .nil (.cons iIxI_ok .nil) mixed Tryz.func134 rfl rfl rfl ?_, rfl, rfl, h⟩
    rw [eHas3]
    refine ⟨?_⟩
    unfold has3; cases x == a <;> cases x == b <;> cases x == c <;> rfl
  · exact h.elim
def codeAt (s : SesD) : Int := hdJ (s.pg.getD s.pc.toNat [])
def atS (p : Int → Bool) (s : SesD) : Bool := (s.st == 0) && (decide (s.pc < s.pg.length) && p (codeAt s))
def mAt (p : Int → Bool) (h : Mh) (ss : List SesD) (i : Int) : Bool := mthere h ss i && (match ss[i.toNat]? with | some s => atS p s | none => false)
theorem okZ_isJ {z : Nat} {R : List (List D)} (h : okZ (z + 1) R = true) {k : Nat} (hk : k < R.length) : isJ [IntKind.i64] (R.getD k []) = true := by
  obtain ⟨e, w, _⟩ := okZ_spec h
  rw [e] at hk ⊢
  rw [mZ_len] at hk
  exact isJ_mZ (j := 0) (n := 1) w hk (by omega)
theorem at_leaf {s : SesD} (hs : okSes s = true) (h0 : 0 ≤ s.pc) (p : Int → Bool) (K : DV → Prop) :
    (bif s.st == 0 then bif decide (s.pc < @Nat.cast Int _ (List.length s.pg)) then bif decide (0 ≤ s.pc) && decide (s.pc < @Nat.cast Int _ (List.length s.pg)) then bif isJ [IntKind.i64] (List.drop 0 (List.getD s.pg (Int.toNat s.pc) [])) then K (DV.c (D.v (Value.bool (p (hdJ (List.drop 0 (List.getD s.pg (Int.toNat s.pc) []))))))) else False else False else K (DV.c (D.v (Value.bool false))) else K (DV.c (D.v (Value.bool false)))) = K (.c (.v (.bool (atS p s)))) := by
  unfold atS codeAt
  rw [List.drop_zero]
  cases hst : s.st == 0
  · simp only [cond_false, Bool.false_and]
  · cases hl : decide (s.pc < @Nat.cast Int _ (List.length s.pg))
    · simp only [cond_true, cond_false, Bool.true_and, Bool.false_and]
    · have hl' := of_decide_eq_true hl
      have hj := okZ_isJ (z := 3) (by unfold okSes at hs; simp only [Bool.and_eq_true] at hs; exact hs.1) (show s.pc.toNat < s.pg.length by omega)
      simp only [cond_true, Bool.true_and, decide_eq_true h0, hj]
theorem mthere_spec {h : Mh} {ss : List SesD} {i : Int} (hm : mthere h ss i = true) : mmay h ss = true ∧ 0 ≤ i ∧ i < ss.length := by
  unfold mthere at hm; simpa [Bool.and_eq_true] using hm
theorem mmay_ses {h : Mh} {ss : List SesD} (hm : mmay h ss = true) : ss.length ≤ 4 ∧ ∀ s ∈ ss, sesMay h.w0 h.w1 h.w2 h.w3 s = true := by
  unfold mmay at hm
  simp only [Bool.and_eq_true, Bool.not_eq_true', decide_eq_false_iff_not, List.all_eq_true] at hm
  exact ⟨by omega, hm.2.2.2.2.2.2.1⟩
theorem sesMay_pc {R0 R1 R2 R3 : List (List D)} {s : SesD} (h : sesMay R0 R1 R2 R3 s = true) : 0 ≤ s.pc ∧ s.pc ≤ s.pg.length := by
  unfold sesMay farB upto at h
  simp only [Bool.and_eq_true, decide_eq_true_eq] at h
  omega
theorem mthere_at {h : Mh} {ss : List SesD} {i : Int} (hok : okM h ss = true) (hm : mthere h ss i = true) : ∃ s, ss[i.toNat]? = some s ∧ okSes s = true ∧ sesMay h.w0 h.w1 h.w2 h.w3 s = true := by
  obtain ⟨g0, g1, g2⟩ := mthere_spec hm
  have hl : i.toNat < ss.length := by omega
  have hmem : ss[i.toNat] ∈ ss := List.getElem_mem hl
  exact ⟨ss[i.toNat], List.getElem?_eq_getElem hl, List.all_eq_true.1 (okM_spec hok).2.2 _ hmem, (mmay_ses g0).2 _ hmem⟩
theorem eAt1 (h : Mh) (ss : List SesD) (i : Int) (a : Int) (t : Bool) (K : DV → Prop) : (askH Tryz.prog (hkF [(52, sAtD [.c (.p 0 (macL 0 h ss) 0), I i] (B t)), (134, sHas)] [] []) Tryz.f80 [.c (.p 0 (macL 0 h ss) 0), I i, .c (.s 0 1 [[vi a]] [])] K) = ([DV.c (D.p (0) (macL (0) h ss) (0)), I i] = [DV.c (D.p (0) (macL (0) h ss) (0)), I i] ∧ bif !t then K (DV.c (D.v (Value.bool false))) else bif decide (0 ≤ i) && decide (i < @Nat.cast Int _ (List.length (List.map (sesL (0)) ss))) then ∃ s, sesAt (List.map (sesL (0)) ss) (Int.toNat i) (0) s ∧ bif s.st == 0 then bif decide (s.pc < @Nat.cast Int _ (List.length s.pg)) then bif decide (0 ≤ s.pc) && decide (s.pc < @Nat.cast Int _ (List.length s.pg)) then bif isJ [IntKind.i64] (List.drop (0) (List.getD s.pg (Int.toNat s.pc) [])) then K (DV.c (D.v (Value.bool (has1 a (hdJ (List.drop (0) (List.getD s.pg (Int.toNat s.pc) []))))))) else False else False else K (DV.c (D.v (Value.bool false))) else K (DV.c (D.v (Value.bool false))) else False) := by kernel_rfl
theorem cAt1 (h : Mh) (ss : List SesD) (i : Int) (a : Int) (hok : okM h ss = true) : CT Tryz.prog 80 [.c (.p 0 (macL 0 h ss) 0), I i, .c (.s 0 1 [[vi a]] [])] (B (mAt (has1 a) h ss i)) := by
  refine ct_hA (hkF_ok (.cons (oAtD (goes_of Tryz.func52 (by kernel_rfl) rfl) (cThe h ss i hok) rfl rfl) (.cons oHas .nil)) .nil .nil) mixed hkF_loops Tryz.func80 rfl rfl rfl ?_
  rw [eAt1]
  refine ⟨⟨rfl, ?_⟩⟩
  unfold mAt
  cases hm : mthere h ss i with
  | false => exact AL.refl _
  | true =>
    obtain ⟨g0, g1, g2⟩ := mthere_spec hm
    obtain ⟨s, hs, ho, hy⟩ := mthere_at hok hm
    simp only [Bool.not_true, cond_false, cond_true, decide_eq_true g1, List.length_map, decide_eq_true g2, Bool.and_self, hs, Bool.true_and]
    refine ⟨s, sesAt_map hs, ?_⟩
    have e := at_leaf ho (sesMay_pc hy).1 (has1 a) (fun r => AL r (B (atS (has1 a) s)))
    simp only [e]
    exact AL.refl _
end

section
open Go Go.Proofs
set_option linter.unusedSimpArgs false
set_option linter.unusedVariables false
set_option maxRecDepth 100000
theorem eSesC (s : SesD) (K : DV → Prop) : (ask Tryz.prog [(90, sCloneInsts), (149, sCloneReads), (137, sCloneWrites)] Tryz.f96 [.agg (sesL 0 s)] K) = (bif allV s.pg && decide (List.length s.pg ≤ 4398046510977) then bif allV s.rd && decide (List.length s.rd ≤ 5864062014635) then bif allV s.wt && decide (List.length s.wt ≤ 5864062014635) then bif decide (List.length s.pg ≤ List.length (s.pg ++ [])) && List.all (s.pg ++ []) fun r => List.all r D.keeps then bif decide (List.length s.rd ≤ List.length (s.rd ++ [])) && List.all (s.rd ++ []) fun r => List.all r D.keeps then bif decide (List.length s.wt ≤ List.length (s.wt ++ [])) && List.all (s.wt ++ []) fun r => List.all r D.keeps then K (DV.agg [D.v (Value.int IntKind.i64 s.id), D.v (Value.int IntKind.i64 s.lb), D.v (Value.int IntKind.i64 s.cl), D.s (1) (4) (List.take (List.length s.pg) (s.pg ++ [])) (List.take (List.length s.pg + 0 - List.length s.pg) (List.drop (List.length s.pg) (s.pg ++ []))), D.v (Value.int IntKind.i64 s.st), D.v (Value.int IntKind.i64 s.pc), D.v (Value.int IntKind.i64 s.r0), D.v (Value.int IntKind.i64 s.r1), D.v (Value.int IntKind.i64 s.r2), D.v (Value.int IntKind.i64 s.r3), D.s (1) (3) (List.take (List.length s.rd) (s.rd ++ [])) (List.take (List.length s.rd + 0 - List.length s.rd) (List.drop (List.length s.rd) (s.rd ++ []))), D.s (1) (3) (List.take (List.length s.wt) (s.wt ++ [])) (List.take (List.length s.wt + 0 - List.length s.wt) (List.drop (List.length s.wt) (s.wt ++ []))), D.v (Value.int IntKind.i64 s.at'), D.v (Value.int IntKind.i64 s.sp), D.v (Value.int IntKind.i64 s.tr), D.v (Value.int IntKind.i64 s.rs), D.v (Value.int IntKind.i64 s.to)]) else False else False else False else False else False else False) := by kernel_rfl
def smR (n : Nat) (R : List (List D)) : Bool := allV R && decide (R.length ≤ n)
def smS (s : SesD) : Bool := smR 4398046510977 s.pg && (smR 5864062014635 s.rd && smR 5864062014635 s.wt)
def smM (h : Mh) (ss : List SesD) : Bool := okC4 h.w0 h.w1 h.w2 h.w3 && (smR 4398046510977 h.tr && ss.all smS)
theorem smR_spec {n : Nat} {R : List (List D)} (h : smR n R = true) : allV R = true ∧ R.length ≤ n ∧ (R.all fun r => r.all D.keeps) = true := by
  unfold smR at h
  simp only [Bool.and_eq_true, decide_eq_true_eq] at h
  exact ⟨h.1, h.2, keeps_of h.1⟩
theorem smR_of {n z m : Nat} {R : List (List D)} (h : okZ z R = true) (hl : R.length ≤ m) (hm : m ≤ n) : smR n R = true := by
  unfold smR
  rw [allV_ok h, decide_eq_true (by omega : R.length ≤ n)]; rfl
theorem smS_spec {s : SesD} (h : smS s = true) : smR 4398046510977 s.pg = true ∧ smR 5864062014635 s.rd = true ∧ smR 5864062014635 s.wt = true := by
  unfold smS at h; simpa [Bool.and_eq_true] using h
theorem takeAll (R : List (List D)) : List.take R.length R = R := List.take_length
theorem ownL_ses {s : SesD} (h : smS s = true) : ownL (sesL 1 s) = true := by
  obtain ⟨h1, h2, h3⟩ := smS_spec h
  simp only [sesL, ownL, D.pureOwn, ownLL_of (smR_spec h1).1, ownLL_of (smR_spec h2).1, ownLL_of (smR_spec h3).1, ownLL]; rfl
theorem cSesC (s : SesD) (hs : smS s = true) : CT Tryz.prog 96 [.agg (sesL 0 s)] (.agg (sesL 1 s)) := by
  obtain ⟨h1, h2, h3⟩ := smS_spec hs
  obtain ⟨a1, a2, a3⟩ := smR_spec h1
  obtain ⟨b1, b2, b3⟩ := smR_spec h2
  obtain ⟨c1, c2, c3⟩ := smR_spec h3
  refine ct_s (.cons oCloneInsts (.cons oCloneReads (.cons oCloneWrites .nil))) mixed Tryz.func96 rfl rfl rfl ?_
  rw [eSesC]
  refine ⟨?_⟩
  simp only [a1, a2, a3, b1, b2, b3, c1, c2, c3, List.append_nil, Nat.le_refl, decide_true, Bool.and_self, cond_true, takeAll, Nat.add_zero, Nat.sub_self, List.take_zero]
  rfl
def sSesC : Spec := fun ds Q => match ds with
  | [d] => sesA d fun s => cond (smS s) (Q (.agg (sesL 1 s))) False
  | _ => False
theorem oSesC : SpecOK Tryz.prog 96 sSesC := o_al Tryz.func96 (by kernel_rfl) rfl fun ds Q h => by
  unfold sSesC at h; split at h
  · obtain ⟨s, h, r⟩ := sesA_spec h
    obtain ⟨h1, h2⟩ := cond_P h
    exact ⟨_, _, .cons r .nil, cSesC s h1, ownL_ses h1, rfl, h2⟩
  · exact h.elim
theorem eClS0 (K : DV → Prop) : (ask Tryz.prog [] Tryz.f94 [.c (.s 0 17 ([].map (sesL 0)) [])] K) = (K (DV.c (D.s (1) (17) [] [])) ∧ K (DV.c (D.s (1) (17) [] []))) := by kernel_rfl
theorem eClS1 (s0 : SesD) (K : DV → Prop) : (ask Tryz.prog [] Tryz.f94 [.c (.s 0 17 ([s0].map (sesL 0)) [])] K) = (True ∧ K (DV.c (D.s (1) (17) [[D.v (Value.int IntKind.i64 s0.id), D.v (Value.int IntKind.i64 s0.lb), D.v (Value.int IntKind.i64 s0.cl), D.s (0) (4) s0.pg [], D.v (Value.int IntKind.i64 s0.st), D.v (Value.int IntKind.i64 s0.pc), D.v (Value.int IntKind.i64 s0.r0), D.v (Value.int IntKind.i64 s0.r1), D.v (Value.int IntKind.i64 s0.r2), D.v (Value.int IntKind.i64 s0.r3), D.s (0) (3) s0.rd [], D.s (0) (3) s0.wt [], D.v (Value.int IntKind.i64 s0.at'), D.v (Value.int IntKind.i64 s0.sp), D.v (Value.int IntKind.i64 s0.tr), D.v (Value.int IntKind.i64 s0.rs), D.v (Value.int IntKind.i64 s0.to)]] []))) := by kernel_rfl
theorem eClS2 (s0 s1 : SesD) (K : DV → Prop) : (ask Tryz.prog [] Tryz.f94 [.c (.s 0 17 ([s0, s1].map (sesL 0)) [])] K) = (True ∧ K (DV.c (D.s (1) (17) [[D.v (Value.int IntKind.i64 s0.id), D.v (Value.int IntKind.i64 s0.lb), D.v (Value.int IntKind.i64 s0.cl), D.s (0) (4) s0.pg [], D.v (Value.int IntKind.i64 s0.st), D.v (Value.int IntKind.i64 s0.pc), D.v (Value.int IntKind.i64 s0.r0), D.v (Value.int IntKind.i64 s0.r1), D.v (Value.int IntKind.i64 s0.r2), D.v (Value.int IntKind.i64 s0.r3), D.s (0) (3) s0.rd [], D.s (0) (3) s0.wt [], D.v (Value.int IntKind.i64 s0.at'), D.v (Value.int IntKind.i64 s0.sp), D.v (Value.int IntKind.i64 s0.tr), D.v (Value.int IntKind.i64 s0.rs), D.v (Value.int IntKind.i64 s0.to)], [D.v (Value.int IntKind.i64 s1.id), D.v (Value.int IntKind.i64 s1.lb), D.v (Value.int IntKind.i64 s1.cl), D.s (0) (4) s1.pg [], D.v (Value.int IntKind.i64 s1.st), D.v (Value.int IntKind.i64 s1.pc), D.v (Value.int IntKind.i64 s1.r0), D.v (Value.int IntKind.i64 s1.r1), D.v (Value.int IntKind.i64 s1.r2), D.v (Value.int IntKind.i64 s1.r3), D.s (0) (3) s1.rd [], D.s (0) (3) s1.wt [], D.v (Value.int IntKind.i64 s1.at'), D.v (Value.int IntKind.i64 s1.sp), D.v (Value.int IntKind.i64 s1.tr), D.v (Value.int IntKind.i64 s1.rs), D.v (Value.int IntKind.i64 s1.to)]] []))) := by kernel_rfl
theorem eClS3 (s0 s1 s2 : SesD) (K : DV → Prop) : (ask Tryz.prog [] Tryz.f94 [.c (.s 0 17 ([s0, s1, s2].map (sesL 0)) [])] K) = (True ∧ K (DV.c (D.s (1) (17) [[D.v (Value.int IntKind.i64 s0.id), D.v (Value.int IntKind.i64 s0.lb), D.v (Value.int IntKind.i64 s0.cl), D.s (0) (4) s0.pg [], D.v (Value.int IntKind.i64 s0.st), D.v (Value.int IntKind.i64 s0.pc), D.v (Value.int IntKind.i64 s0.r0), D.v (Value.int IntKind.i64 s0.r1), D.v (Value.int IntKind.i64 s0.r2), D.v (Value.int IntKind.i64 s0.r3), D.s (0) (3) s0.rd [], D.s (0) (3) s0.wt [], D.v (Value.int IntKind.i64 s0.at'), D.v (Value.int IntKind.i64 s0.sp), D.v (Value.int IntKind.i64 s0.tr), D.v (Value.int IntKind.i64 s0.rs), D.v (Value.int IntKind.i64 s0.to)], [D.v (Value.int IntKind.i64 s1.id), D.v (Value.int IntKind.i64 s1.lb), D.v (Value.int IntKind.i64 s1.cl), D.s (0) (4) s1.pg [], D.v (Value.int IntKind.i64 s1.st), D.v (Value.int IntKind.i64 s1.pc), D.v (Value.int IntKind.i64 s1.r0), D.v (Value.int IntKind.i64 s1.r1), D.v (Value.int IntKind.i64 s1.r2), D.v (Value.int IntKind.i64 s1.r3), D.s (0) (3) s1.rd [], D.s (0) (3) s1.wt [], D.v (Value.int IntKind.i64 s1.at'), D.v (Value.int IntKind.i64 s1.sp), D.v (Value.int IntKind.i64 s1.tr), D.v (Value.int IntKind.i64 s1.rs), D.v (Value.int IntKind.i64 s1.to)], [D.v (Value.int IntKind.i64 s2.id), D.v (Value.int IntKind.i64 s2.lb), D.v (Value.int IntKind.i64 s2.cl), D.s (0) (4) s2.pg [], D.v (Value.int IntKind.i64 s2.st), D.v (Value.int IntKind.i64 s2.pc), D.v (Value.int IntKind.i64 s2.r0), D.v (Value.int IntKind.i64 s2.r1), D.v (Value.int IntKind.i64 s2.r2), D.v (Value.int IntKind.i64 s2.r3), D.s (0) (3) s2.rd [], D.s (0) (3) s2.wt [], D.v (Value.int IntKind.i64 s2.at'), D.v (Value.int IntKind.i64 s2.sp), D.v (Value.int IntKind.i64 s2.tr), D.v (Value.int IntKind.i64 s2.rs), D.v (Value.int IntKind.i64 s2.to)]] []))) := by kernel_rfl
theorem eClS4 (s0 s1 s2 s3 : SesD) (K : DV → Prop) : (ask Tryz.prog [] Tryz.f94 [.c (.s 0 17 ([s0, s1, s2, s3].map (sesL 0)) [])] K) = (True ∧ K (DV.c (D.s (1) (17) [[D.v (Value.int IntKind.i64 s0.id), D.v (Value.int IntKind.i64 s0.lb), D.v (Value.int IntKind.i64 s0.cl), D.s (0) (4) s0.pg [], D.v (Value.int IntKind.i64 s0.st), D.v (Value.int IntKind.i64 s0.pc), D.v (Value.int IntKind.i64 s0.r0), D.v (Value.int IntKind.i64 s0.r1), D.v (Value.int IntKind.i64 s0.r2), D.v (Value.int IntKind.i64 s0.r3), D.s (0) (3) s0.rd [], D.s (0) (3) s0.wt [], D.v (Value.int IntKind.i64 s0.at'), D.v (Value.int IntKind.i64 s0.sp), D.v (Value.int IntKind.i64 s0.tr), D.v (Value.int IntKind.i64 s0.rs), D.v (Value.int IntKind.i64 s0.to)], [D.v (Value.int IntKind.i64 s1.id), D.v (Value.int IntKind.i64 s1.lb), D.v (Value.int IntKind.i64 s1.cl), D.s (0) (4) s1.pg [], D.v (Value.int IntKind.i64 s1.st), D.v (Value.int IntKind.i64 s1.pc), D.v (Value.int IntKind.i64 s1.r0), D.v (Value.int IntKind.i64 s1.r1), D.v (Value.int IntKind.i64 s1.r2), D.v (Value.int IntKind.i64 s1.r3), D.s (0) (3) s1.rd [], D.s (0) (3) s1.wt [], D.v (Value.int IntKind.i64 s1.at'), D.v (Value.int IntKind.i64 s1.sp), D.v (Value.int IntKind.i64 s1.tr), D.v (Value.int IntKind.i64 s1.rs), D.v (Value.int IntKind.i64 s1.to)], [D.v (Value.int IntKind.i64 s2.id), D.v (Value.int IntKind.i64 s2.lb), D.v (Value.int IntKind.i64 s2.cl), D.s (0) (4) s2.pg [], D.v (Value.int IntKind.i64 s2.st), D.v (Value.int IntKind.i64 s2.pc), D.v (Value.int IntKind.i64 s2.r0), D.v (Value.int IntKind.i64 s2.r1), D.v (Value.int IntKind.i64 s2.r2), D.v (Value.int IntKind.i64 s2.r3), D.s (0) (3) s2.rd [], D.s (0) (3) s2.wt [], D.v (Value.int IntKind.i64 s2.at'), D.v (Value.int IntKind.i64 s2.sp), D.v (Value.int IntKind.i64 s2.tr), D.v (Value.int IntKind.i64 s2.rs), D.v (Value.int IntKind.i64 s2.to)], [D.v (Value.int IntKind.i64 s3.id), D.v (Value.int IntKind.i64 s3.lb), D.v (Value.int IntKind.i64 s3.cl), D.s (0) (4) s3.pg [], D.v (Value.int IntKind.i64 s3.st), D.v (Value.int IntKind.i64 s3.pc), D.v (Value.int IntKind.i64 s3.r0), D.v (Value.int IntKind.i64 s3.r1), D.v (Value.int IntKind.i64 s3.r2), D.v (Value.int IntKind.i64 s3.r3), D.s (0) (3) s3.rd [], D.s (0) (3) s3.wt [], D.v (Value.int IntKind.i64 s3.at'), D.v (Value.int IntKind.i64 s3.sp), D.v (Value.int IntKind.i64 s3.tr), D.v (Value.int IntKind.i64 s3.rs), D.v (Value.int IntKind.i64 s3.to)]] []))) := by kernel_rfl
theorem cClS (ss : List SesD) (hl : ss.length ≤ 4) : CT Tryz.prog 94 [.c (.s 0 17 (ss.map (sesL 0)) [])] (.c (.s 1 17 (ss.map (sesL 0)) [])) := by
  rcases ss with _ | ⟨s0, _ | ⟨s1, _ | ⟨s2, _ | ⟨s3, _ | ⟨s4, l⟩⟩⟩⟩⟩
  · refine ct_s .nil mixed Tryz.func94 rfl rfl rfl ?_
    rw [eClS0]
    exact ⟨⟨rfl, rfl⟩⟩
  · refine ct_s .nil mixed Tryz.func94 rfl rfl rfl ?_
    rw [eClS1]
    exact ⟨⟨trivial, rfl⟩⟩
  · refine ct_s .nil mixed Tryz.func94 rfl rfl rfl ?_
    rw [eClS2]
    exact ⟨⟨trivial, rfl⟩⟩
  · refine ct_s .nil mixed Tryz.func94 rfl rfl rfl ?_
    rw [eClS3]
    exact ⟨⟨trivial, rfl⟩⟩
  · refine ct_s .nil mixed Tryz.func94 rfl rfl rfl ?_
    rw [eClS4]
    exact ⟨⟨trivial, rfl⟩⟩
  · simp at hl
def sClS : Spec := fun ds Q => match ds with
  | [.c d] => cond d.isOwn False (takeSS d fun ss => cond (Nat.ble ss.length 4) (Q (.c (.s 1 17 (ss.map (sesL 0)) []))) False)
  | _ => False
theorem oClS : SpecFOK Tryz.prog 94 sClS := fun ds Q h => by
  refine ⟨goes_of Tryz.func94 (by kernel_rfl) rfl, ?_⟩
  unfold sClS at h; split at h
  · rename_i d
    cases hd : d.isOwn with
    | true => rw [hd] at h; exact h.elim
    | false =>
      rw [hd] at h
      obtain ⟨ss, h, r⟩ := takeSS_spec h
      obtain ⟨h1, h2⟩ := cond_P h
      exact ⟨_, (cClS ss (Nat.le_of_ble_eq_true h1)).args (.cons (.c r hd rfl) .nil), rfl, h2⟩
  · exact h.elim
theorem eCop0 (h : Mh) (K : DV → Prop) : (askH Tryz.prog (hkM [(93, sACopy), (95, sCloneEvents), (96, sSesC)] [(94, sClS)] []) Tryz.f53 [.agg (macL 0 h [])] K) = (bif okC4 h.w0 h.w1 h.w2 h.w3 then bif allV h.tr && decide (List.length h.tr ≤ 4398046510977) then bif decide (List.length h.w0 ≤ List.length (h.w0 ++ [])) && List.all (h.w0 ++ []) fun r => List.all r D.keeps then bif decide (List.length h.w1 ≤ List.length (h.w1 ++ [])) && List.all (h.w1 ++ []) fun r => List.all r D.keeps then bif decide (List.length h.w2 ≤ List.length (h.w2 ++ [])) && List.all (h.w2 ++ []) fun r => List.all r D.keeps then bif decide (List.length h.w3 ≤ List.length (h.w3 ++ [])) && List.all (h.w3 ++ []) fun r => List.all r D.keeps then bif decide (List.length h.tr ≤ List.length (h.tr ++ [])) && List.all (h.tr ++ []) fun r => List.all r D.keeps then K (DV.agg [D.s (1) (3) (List.take (List.length h.w0) (h.w0 ++ [])) (List.take (List.length h.w0 + 0 - List.length h.w0) (List.drop (List.length h.w0) (h.w0 ++ []))), D.s (1) (3) (List.take (List.length h.w1) (h.w1 ++ [])) (List.take (List.length h.w1 + 0 - List.length h.w1) (List.drop (List.length h.w1) (h.w1 ++ []))), D.s (1) (3) (List.take (List.length h.w2) (h.w2 ++ [])) (List.take (List.length h.w2 + 0 - List.length h.w2) (List.drop (List.length h.w2) (h.w2 ++ []))), D.s (1) (3) (List.take (List.length h.w3) (h.w3 ++ [])) (List.take (List.length h.w3 + 0 - List.length h.w3) (List.drop (List.length h.w3) (h.w3 ++ []))), D.v (Value.int IntKind.i64 h.c0), D.v (Value.int IntKind.i64 h.c1), D.v (Value.int IntKind.i64 h.c2), D.v (Value.int IntKind.i64 h.c3), D.v (Value.int IntKind.i64 h.ce), D.s (1) (17) [] [], D.s (1) (4) (List.take (List.length h.tr) (h.tr ++ [])) (List.take (List.length h.tr + 0 - List.length h.tr) (List.drop (List.length h.tr) (h.tr ++ [])))]) else False else False else False else False else False else False else False) := by kernel_rfl
theorem eCop1 (h : Mh) (s0 : SesD) (K : DV → Prop) : (askH Tryz.prog (hkM [(93, sACopy), (95, sCloneEvents), (96, sSesC)] [(94, sClS)] []) Tryz.f53 [.agg (macL 0 h [s0])] K) = (bif okC4 h.w0 h.w1 h.w2 h.w3 then bif allV h.tr && decide (List.length h.tr ≤ 4398046510977) then bif smS s0 then bif decide (List.length h.w0 ≤ List.length (h.w0 ++ [])) && List.all (h.w0 ++ []) fun r => List.all r D.keeps then bif decide (List.length h.w1 ≤ List.length (h.w1 ++ [])) && List.all (h.w1 ++ []) fun r => List.all r D.keeps then bif decide (List.length h.w2 ≤ List.length (h.w2 ++ [])) && List.all (h.w2 ++ []) fun r => List.all r D.keeps then bif decide (List.length h.w3 ≤ List.length (h.w3 ++ [])) && List.all (h.w3 ++ []) fun r => List.all r D.keeps then bif decide (List.length s0.pg ≤ List.length (s0.pg ++ [])) && List.all (s0.pg ++ []) fun r => List.all r D.keeps then bif decide (List.length s0.rd ≤ List.length (s0.rd ++ [])) && List.all (s0.rd ++ []) fun r => List.all r D.keeps then bif decide (List.length s0.wt ≤ List.length (s0.wt ++ [])) && List.all (s0.wt ++ []) fun r => List.all r D.keeps then bif decide (List.length h.tr ≤ List.length (h.tr ++ [])) && List.all (h.tr ++ []) fun r => List.all r D.keeps then K (DV.agg [D.s (1) (3) (List.take (List.length h.w0) (h.w0 ++ [])) (List.take (List.length h.w0 + 0 - List.length h.w0) (List.drop (List.length h.w0) (h.w0 ++ []))), D.s (1) (3) (List.take (List.length h.w1) (h.w1 ++ [])) (List.take (List.length h.w1 + 0 - List.length h.w1) (List.drop (List.length h.w1) (h.w1 ++ []))), D.s (1) (3) (List.take (List.length h.w2) (h.w2 ++ [])) (List.take (List.length h.w2 + 0 - List.length h.w2) (List.drop (List.length h.w2) (h.w2 ++ []))), D.s (1) (3) (List.take (List.length h.w3) (h.w3 ++ [])) (List.take (List.length h.w3 + 0 - List.length h.w3) (List.drop (List.length h.w3) (h.w3 ++ []))), D.v (Value.int IntKind.i64 h.c0), D.v (Value.int IntKind.i64 h.c1), D.v (Value.int IntKind.i64 h.c2), D.v (Value.int IntKind.i64 h.c3), D.v (Value.int IntKind.i64 h.ce), D.s (1) (17) [[D.v (Value.int IntKind.i64 s0.id), D.v (Value.int IntKind.i64 s0.lb), D.v (Value.int IntKind.i64 s0.cl), D.s (1) (4) (List.take (List.length s0.pg) (s0.pg ++ [])) (List.take (List.length s0.pg + 0 - List.length s0.pg) (List.drop (List.length s0.pg) (s0.pg ++ []))), D.v (Value.int IntKind.i64 s0.st), D.v (Value.int IntKind.i64 s0.pc), D.v (Value.int IntKind.i64 s0.r0), D.v (Value.int IntKind.i64 s0.r1), D.v (Value.int IntKind.i64 s0.r2), D.v (Value.int IntKind.i64 s0.r3), D.s (1) (3) (List.take (List.length s0.rd) (s0.rd ++ [])) (List.take (List.length s0.rd + 0 - List.length s0.rd) (List.drop (List.length s0.rd) (s0.rd ++ []))), D.s (1) (3) (List.take (List.length s0.wt) (s0.wt ++ [])) (List.take (List.length s0.wt + 0 - List.length s0.wt) (List.drop (List.length s0.wt) (s0.wt ++ []))), D.v (Value.int IntKind.i64 s0.at'), D.v (Value.int IntKind.i64 s0.sp), D.v (Value.int IntKind.i64 s0.tr), D.v (Value.int IntKind.i64 s0.rs), D.v (Value.int IntKind.i64 s0.to)]] [], D.s (1) (4) (List.take (List.length h.tr) (h.tr ++ [])) (List.take (List.length h.tr + 0 - List.length h.tr) (List.drop (List.length h.tr) (h.tr ++ [])))]) else False else False else False else False else False else False else False else False else False else False else False) := by kernel_rfl
theorem eCop2 (h : Mh) (s0 s1 : SesD) (K : DV → Prop) : (askH Tryz.prog (hkM [(93, sACopy), (95, sCloneEvents), (96, sSesC)] [(94, sClS)] []) Tryz.f53 [.agg (macL 0 h [s0, s1])] K) = (bif okC4 h.w0 h.w1 h.w2 h.w3 then bif allV h.tr && decide (List.length h.tr ≤ 4398046510977) then bif smS s0 then bif smS s1 then bif decide (List.length h.w0 ≤ List.length (h.w0 ++ [])) && List.all (h.w0 ++ []) fun r => List.all r D.keeps then bif decide (List.length h.w1 ≤ List.length (h.w1 ++ [])) && List.all (h.w1 ++ []) fun r => List.all r D.keeps then bif decide (List.length h.w2 ≤ List.length (h.w2 ++ [])) && List.all (h.w2 ++ []) fun r => List.all r D.keeps then bif decide (List.length h.w3 ≤ List.length (h.w3 ++ [])) && List.all (h.w3 ++ []) fun r => List.all r D.keeps then bif decide (List.length s0.pg ≤ List.length (s0.pg ++ [])) && List.all (s0.pg ++ []) fun r => List.all r D.keeps then bif decide (List.length s0.rd ≤ List.length (s0.rd ++ [])) && List.all (s0.rd ++ []) fun r => List.all r D.keeps then bif decide (List.length s0.wt ≤ List.length (s0.wt ++ [])) && List.all (s0.wt ++ []) fun r => List.all r D.keeps then bif decide (List.length s1.pg ≤ List.length (s1.pg ++ [])) && List.all (s1.pg ++ []) fun r => List.all r D.keeps then bif decide (List.length s1.rd ≤ List.length (s1.rd ++ [])) && List.all (s1.rd ++ []) fun r => List.all r D.keeps then bif decide (List.length s1.wt ≤ List.length (s1.wt ++ [])) && List.all (s1.wt ++ []) fun r => List.all r D.keeps then bif decide (List.length h.tr ≤ List.length (h.tr ++ [])) && List.all (h.tr ++ []) fun r => List.all r D.keeps then K (DV.agg [D.s (1) (3) (List.take (List.length h.w0) (h.w0 ++ [])) (List.take (List.length h.w0 + 0 - List.length h.w0) (List.drop (List.length h.w0) (h.w0 ++ []))), D.s (1) (3) (List.take (List.length h.w1) (h.w1 ++ [])) (List.take (List.length h.w1 + 0 - List.length h.w1) (List.drop (List.length h.w1) (h.w1 ++ []))), D.s (1) (3) (List.take (List.length h.w2) (h.w2 ++ [])) (List.take (List.length h.w2 + 0 - List.length h.w2) (List.drop (List.length h.w2) (h.w2 ++ []))), D.s (1) (3) (List.take (List.length h.w3) (h.w3 ++ [])) (List.take (List.length h.w3 + 0 - List.length h.w3) (List.drop (List.length h.w3) (h.w3 ++ []))), D.v (Value.int IntKind.i64 h.c0), D.v (Value.int IntKind.i64 h.c1), D.v (Value.int IntKind.i64 h.c2), D.v (Value.int IntKind.i64 h.c3), D.v (Value.int IntKind.i64 h.ce), D.s (1) (17) [[D.v (Value.int IntKind.i64 s0.id), D.v (Value.int IntKind.i64 s0.lb), D.v (Value.int IntKind.i64 s0.cl), D.s (1) (4) (List.take (List.length s0.pg) (s0.pg ++ [])) (List.take (List.length s0.pg + 0 - List.length s0.pg) (List.drop (List.length s0.pg) (s0.pg ++ []))), D.v (Value.int IntKind.i64 s0.st), D.v (Value.int IntKind.i64 s0.pc), D.v (Value.int IntKind.i64 s0.r0), D.v (Value.int IntKind.i64 s0.r1), D.v (Value.int IntKind.i64 s0.r2), D.v (Value.int IntKind.i64 s0.r3), D.s (1) (3) (List.take (List.length s0.rd) (s0.rd ++ [])) (List.take (List.length s0.rd + 0 - List.length s0.rd) (List.drop (List.length s0.rd) (s0.rd ++ []))), D.s (1) (3) (List.take (List.length s0.wt) (s0.wt ++ [])) (List.take (List.length s0.wt + 0 - List.length s0.wt) (List.drop (List.length s0.wt) (s0.wt ++ []))), D.v (Value.int IntKind.i64 s0.at'), D.v (Value.int IntKind.i64 s0.sp), D.v (Value.int IntKind.i64 s0.tr), D.v (Value.int IntKind.i64 s0.rs), D.v (Value.int IntKind.i64 s0.to)], [D.v (Value.int IntKind.i64 s1.id), D.v (Value.int IntKind.i64 s1.lb), D.v (Value.int IntKind.i64 s1.cl), D.s (1) (4) (List.take (List.length s1.pg) (s1.pg ++ [])) (List.take (List.length s1.pg + 0 - List.length s1.pg) (List.drop (List.length s1.pg) (s1.pg ++ []))), D.v (Value.int IntKind.i64 s1.st), D.v (Value.int IntKind.i64 s1.pc), D.v (Value.int IntKind.i64 s1.r0), D.v (Value.int IntKind.i64 s1.r1), D.v (Value.int IntKind.i64 s1.r2), D.v (Value.int IntKind.i64 s1.r3), D.s (1) (3) (List.take (List.length s1.rd) (s1.rd ++ [])) (List.take (List.length s1.rd + 0 - List.length s1.rd) (List.drop (List.length s1.rd) (s1.rd ++ []))), D.s (1) (3) (List.take (List.length s1.wt) (s1.wt ++ [])) (List.take (List.length s1.wt + 0 - List.length s1.wt) (List.drop (List.length s1.wt) (s1.wt ++ []))), D.v (Value.int IntKind.i64 s1.at'), D.v (Value.int IntKind.i64 s1.sp), D.v (Value.int IntKind.i64 s1.tr), D.v (Value.int IntKind.i64 s1.rs), D.v (Value.int IntKind.i64 s1.to)]] [], D.s (1) (4) (List.take (List.length h.tr) (h.tr ++ [])) (List.take (List.length h.tr + 0 - List.length h.tr) (List.drop (List.length h.tr) (h.tr ++ [])))]) else False else False else False else False else False else False else False else False else False else False else False else False else False else False else False) := by kernel_rfl
theorem eCop3 (h : Mh) (s0 s1 s2 : SesD) (K : DV → Prop) : (askH Tryz.prog (hkM [(93, sACopy), (95, sCloneEvents), (96, sSesC)] [(94, sClS)] []) Tryz.f53 [.agg (macL 0 h [s0, s1, s2])] K) = (bif okC4 h.w0 h.w1 h.w2 h.w3 then bif allV h.tr && decide (List.length h.tr ≤ 4398046510977) then bif smS s0 then bif smS s1 then bif smS s2 then bif decide (List.length h.w0 ≤ List.length (h.w0 ++ [])) && List.all (h.w0 ++ []) fun r => List.all r D.keeps then bif decide (List.length h.w1 ≤ List.length (h.w1 ++ [])) && List.all (h.w1 ++ []) fun r => List.all r D.keeps then bif decide (List.length h.w2 ≤ List.length (h.w2 ++ [])) && List.all (h.w2 ++ []) fun r => List.all r D.keeps then bif decide (List.length h.w3 ≤ List.length (h.w3 ++ [])) && List.all (h.w3 ++ []) fun r => List.all r D.keeps then bif decide (List.length s0.pg ≤ List.length (s0.pg ++ [])) && List.all (s0.pg ++ []) fun r => List.all r D.keeps then bif decide (List.length s0.rd ≤ List.length (s0.rd ++ [])) && List.all (s0.rd ++ []) fun r => List.all r D.keeps then bif decide (List.length s0.wt ≤ List.length (s0.wt ++ [])) && List.all (s0.wt ++ []) fun r => List.all r D.keeps then bif decide (List.length s1.pg ≤ List.length (s1.pg ++ [])) && List.all (s1.pg ++ []) fun r => List.all r D.keeps then bif decide (List.length s1.rd ≤ List.length (s1.rd ++ [])) && List.all (s1.rd ++ []) fun r => List.all r D.keeps then bif decide (List.length s1.wt ≤ List.length (s1.wt ++ [])) && List.all (s1.wt ++ []) fun r => List.all r D.keeps then bif decide (List.length s2.pg ≤ List.length (s2.pg ++ [])) && List.all (s2.pg ++ []) fun r => List.all r D.keeps then bif decide (List.length s2.rd ≤ List.length (s2.rd ++ [])) && List.all (s2.rd ++ []) fun r => List.all r D.keeps then bif decide (List.length s2.wt ≤ List.length (s2.wt ++ [])) && List.all (s2.wt ++ []) fun r => List.all r D.keeps then bif decide (List.length h.tr ≤ List.length (h.tr ++ [])) && List.all (h.tr ++ []) fun r => List.all r D.keeps then K (DV.agg [D.s (1) (3) (List.take (List.length h.w0) (h.w0 ++ [])) (List.take (List.length h.w0 + 0 - List.length h.w0) (List.drop (List.length h.w0) (h.w0 ++ []))), D.s (1) (3) (List.take (List.length h.w1) (h.w1 ++ [])) (List.take (List.length h.w1 + 0 - List.length h.w1) (List.drop (List.length h.w1) (h.w1 ++ []))), D.s (1) (3) (List.take (List.length h.w2) (h.w2 ++ [])) (List.take (List.length h.w2 + 0 - List.length h.w2) (List.drop (List.length h.w2) (h.w2 ++ []))), D.s (1) (3) (List.take (List.length h.w3) (h.w3 ++ [])) (List.take (List.length h.w3 + 0 - List.length h.w3) (List.drop (List.length h.w3) (h.w3 ++ []))), D.v (Value.int IntKind.i64 h.c0), D.v (Value.int IntKind.i64 h.c1), D.v (Value.int IntKind.i64 h.c2), D.v (Value.int IntKind.i64 h.c3), D.v (Value.int IntKind.i64 h.ce), D.s (1) (17) [[D.v (Value.int IntKind.i64 s0.id), D.v (Value.int IntKind.i64 s0.lb), D.v (Value.int IntKind.i64 s0.cl), D.s (1) (4) (List.take (List.length s0.pg) (s0.pg ++ [])) (List.take (List.length s0.pg + 0 - List.length s0.pg) (List.drop (List.length s0.pg) (s0.pg ++ []))), D.v (Value.int IntKind.i64 s0.st), D.v (Value.int IntKind.i64 s0.pc), D.v (Value.int IntKind.i64 s0.r0), D.v (Value.int IntKind.i64 s0.r1), D.v (Value.int IntKind.i64 s0.r2), D.v (Value.int IntKind.i64 s0.r3), D.s (1) (3) (List.take (List.length s0.rd) (s0.rd ++ [])) (List.take (List.length s0.rd + 0 - List.length s0.rd) (List.drop (List.length s0.rd) (s0.rd ++ []))), D.s (1) (3) (List.take (List.length s0.wt) (s0.wt ++ [])) (List.take (List.length s0.wt + 0 - List.length s0.wt) (List.drop (List.length s0.wt) (s0.wt ++ []))), D.v (Value.int IntKind.i64 s0.at'), D.v (Value.int IntKind.i64 s0.sp), D.v (Value.int IntKind.i64 s0.tr), D.v (Value.int IntKind.i64 s0.rs), D.v (Value.int IntKind.i64 s0.to)], [D.v (Value.int IntKind.i64 s1.id), D.v (Value.int IntKind.i64 s1.lb), D.v (Value.int IntKind.i64 s1.cl), D.s (1) (4) (List.take (List.length s1.pg) (s1.pg ++ [])) (List.take (List.length s1.pg + 0 - List.length s1.pg) (List.drop (List.length s1.pg) (s1.pg ++ []))), D.v (Value.int IntKind.i64 s1.st), D.v (Value.int IntKind.i64 s1.pc), D.v (Value.int IntKind.i64 s1.r0), D.v (Value.int IntKind.i64 s1.r1), D.v (Value.int IntKind.i64 s1.r2), D.v (Value.int IntKind.i64 s1.r3), D.s (1) (3) (List.take (List.length s1.rd) (s1.rd ++ [])) (List.take (List.length s1.rd + 0 - List.length s1.rd) (List.drop (List.length s1.rd) (s1.rd ++ []))), D.s (1) (3) (List.take (List.length s1.wt) (s1.wt ++ [])) (List.take (List.length s1.wt + 0 - List.length s1.wt) (List.drop (List.length s1.wt) (s1.wt ++ []))), D.v (Value.int IntKind.i64 s1.at'), D.v (Value.int IntKind.i64 s1.sp), D.v (Value.int IntKind.i64 s1.tr), D.v (Value.int IntKind.i64 s1.rs), D.v (Value.int IntKind.i64 s1.to)], [D.v (Value.int IntKind.i64 s2.id), D.v (Value.int IntKind.i64 s2.lb), D.v (Value.int IntKind.i64 s2.cl), D.s (1) (4) (List.take (List.length s2.pg) (s2.pg ++ [])) (List.take (List.length s2.pg + 0 - List.length s2.pg) (List.drop (List.length s2.pg) (s2.pg ++ []))), D.v (Value.int IntKind.i64 s2.st), D.v (Value.int IntKind.i64 s2.pc), D.v (Value.int IntKind.i64 s2.r0), D.v (Value.int IntKind.i64 s2.r1), D.v (Value.int IntKind.i64 s2.r2), D.v (Value.int IntKind.i64 s2.r3), D.s (1) (3) (List.take (List.length s2.rd) (s2.rd ++ [])) (List.take (List.length s2.rd + 0 - List.length s2.rd) (List.drop (List.length s2.rd) (s2.rd ++ []))), D.s (1) (3) (List.take (List.length s2.wt) (s2.wt ++ [])) (List.take (List.length s2.wt + 0 - List.length s2.wt) (List.drop (List.length s2.wt) (s2.wt ++ []))), D.v (Value.int IntKind.i64 s2.at'), D.v (Value.int IntKind.i64 s2.sp), D.v (Value.int IntKind.i64 s2.tr), D.v (Value.int IntKind.i64 s2.rs), D.v (Value.int IntKind.i64 s2.to)]] [], D.s (1) (4) (List.take (List.length h.tr) (h.tr ++ [])) (List.take (List.length h.tr + 0 - List.length h.tr) (List.drop (List.length h.tr) (h.tr ++ [])))]) else False else False else False else False else False else False else False else False else False else False else False else False else False else False else False else False else False else False else False) := by kernel_rfl
theorem eCop4 (h : Mh) (s0 s1 s2 s3 : SesD) (K : DV → Prop) : (askH Tryz.prog (hkM [(93, sACopy), (95, sCloneEvents), (96, sSesC)] [(94, sClS)] []) Tryz.f53 [.agg (macL 0 h [s0, s1, s2, s3])] K) = (bif okC4 h.w0 h.w1 h.w2 h.w3 then bif allV h.tr && decide (List.length h.tr ≤ 4398046510977) then bif smS s0 then bif smS s1 then bif smS s2 then bif smS s3 then bif decide (List.length h.w0 ≤ List.length (h.w0 ++ [])) && List.all (h.w0 ++ []) fun r => List.all r D.keeps then bif decide (List.length h.w1 ≤ List.length (h.w1 ++ [])) && List.all (h.w1 ++ []) fun r => List.all r D.keeps then bif decide (List.length h.w2 ≤ List.length (h.w2 ++ [])) && List.all (h.w2 ++ []) fun r => List.all r D.keeps then bif decide (List.length h.w3 ≤ List.length (h.w3 ++ [])) && List.all (h.w3 ++ []) fun r => List.all r D.keeps then bif decide (List.length s0.pg ≤ List.length (s0.pg ++ [])) && List.all (s0.pg ++ []) fun r => List.all r D.keeps then bif decide (List.length s0.rd ≤ List.length (s0.rd ++ [])) && List.all (s0.rd ++ []) fun r => List.all r D.keeps then bif decide (List.length s0.wt ≤ List.length (s0.wt ++ [])) && List.all (s0.wt ++ []) fun r => List.all r D.keeps then bif decide (List.length s1.pg ≤ List.length (s1.pg ++ [])) && List.all (s1.pg ++ []) fun r => List.all r D.keeps then bif decide (List.length s1.rd ≤ List.length (s1.rd ++ [])) && List.all (s1.rd ++ []) fun r => List.all r D.keeps then bif decide (List.length s1.wt ≤ List.length (s1.wt ++ [])) && List.all (s1.wt ++ []) fun r => List.all r D.keeps then bif decide (List.length s2.pg ≤ List.length (s2.pg ++ [])) && List.all (s2.pg ++ []) fun r => List.all r D.keeps then bif decide (List.length s2.rd ≤ List.length (s2.rd ++ [])) && List.all (s2.rd ++ []) fun r => List.all r D.keeps then bif decide (List.length s2.wt ≤ List.length (s2.wt ++ [])) && List.all (s2.wt ++ []) fun r => List.all r D.keeps then bif decide (List.length s3.pg ≤ List.length (s3.pg ++ [])) && List.all (s3.pg ++ []) fun r => List.all r D.keeps then bif decide (List.length s3.rd ≤ List.length (s3.rd ++ [])) && List.all (s3.rd ++ []) fun r => List.all r D.keeps then bif decide (List.length s3.wt ≤ List.length (s3.wt ++ [])) && List.all (s3.wt ++ []) fun r => List.all r D.keeps then bif decide (List.length h.tr ≤ List.length (h.tr ++ [])) && List.all (h.tr ++ []) fun r => List.all r D.keeps then K (DV.agg [D.s (1) (3) (List.take (List.length h.w0) (h.w0 ++ [])) (List.take (List.length h.w0 + 0 - List.length h.w0) (List.drop (List.length h.w0) (h.w0 ++ []))), D.s (1) (3) (List.take (List.length h.w1) (h.w1 ++ [])) (List.take (List.length h.w1 + 0 - List.length h.w1) (List.drop (List.length h.w1) (h.w1 ++ []))), D.s (1) (3) (List.take (List.length h.w2) (h.w2 ++ [])) (List.take (List.length h.w2 + 0 - List.length h.w2) (List.drop (List.length h.w2) (h.w2 ++ []))), D.s (1) (3) (List.take (List.length h.w3) (h.w3 ++ [])) (List.take (List.length h.w3 + 0 - List.length h.w3) (List.drop (List.length h.w3) (h.w3 ++ []))), D.v (Value.int IntKind.i64 h.c0), D.v (Value.int IntKind.i64 h.c1), D.v (Value.int IntKind.i64 h.c2), D.v (Value.int IntKind.i64 h.c3), D.v (Value.int IntKind.i64 h.ce), D.s (1) (17) [[D.v (Value.int IntKind.i64 s0.id), D.v (Value.int IntKind.i64 s0.lb), D.v (Value.int IntKind.i64 s0.cl), D.s (1) (4) (List.take (List.length s0.pg) (s0.pg ++ [])) (List.take (List.length s0.pg + 0 - List.length s0.pg) (List.drop (List.length s0.pg) (s0.pg ++ []))), D.v (Value.int IntKind.i64 s0.st), D.v (Value.int IntKind.i64 s0.pc), D.v (Value.int IntKind.i64 s0.r0), D.v (Value.int IntKind.i64 s0.r1), D.v (Value.int IntKind.i64 s0.r2), D.v (Value.int IntKind.i64 s0.r3), D.s (1) (3) (List.take (List.length s0.rd) (s0.rd ++ [])) (List.take (List.length s0.rd + 0 - List.length s0.rd) (List.drop (List.length s0.rd) (s0.rd ++ []))), D.s (1) (3) (List.take (List.length s0.wt) (s0.wt ++ [])) (List.take (List.length s0.wt + 0 - List.length s0.wt) (List.drop (List.length s0.wt) (s0.wt ++ []))), D.v (Value.int IntKind.i64 s0.at'), D.v (Value.int IntKind.i64 s0.sp), D.v (Value.int IntKind.i64 s0.tr), D.v (Value.int IntKind.i64 s0.rs), D.v (Value.int IntKind.i64 s0.to)], [D.v (Value.int IntKind.i64 s1.id), D.v (Value.int IntKind.i64 s1.lb), D.v (Value.int IntKind.i64 s1.cl), D.s (1) (4) (List.take (List.length s1.pg) (s1.pg ++ [])) (List.take (List.length s1.pg + 0 - List.length s1.pg) (List.drop (List.length s1.pg) (s1.pg ++ []))), D.v (Value.int IntKind.i64 s1.st), D.v (Value.int IntKind.i64 s1.pc), D.v (Value.int IntKind.i64 s1.r0), D.v (Value.int IntKind.i64 s1.r1), D.v (Value.int IntKind.i64 s1.r2), D.v (Value.int IntKind.i64 s1.r3), D.s (1) (3) (List.take (List.length s1.rd) (s1.rd ++ [])) (List.take (List.length s1.rd + 0 - List.length s1.rd) (List.drop (List.length s1.rd) (s1.rd ++ []))), D.s (1) (3) (List.take (List.length s1.wt) (s1.wt ++ [])) (List.take (List.length s1.wt + 0 - List.length s1.wt) (List.drop (List.length s1.wt) (s1.wt ++ []))), D.v (Value.int IntKind.i64 s1.at'), D.v (Value.int IntKind.i64 s1.sp), D.v (Value.int IntKind.i64 s1.tr), D.v (Value.int IntKind.i64 s1.rs), D.v (Value.int IntKind.i64 s1.to)], [D.v (Value.int IntKind.i64 s2.id), D.v (Value.int IntKind.i64 s2.lb), D.v (Value.int IntKind.i64 s2.cl), D.s (1) (4) (List.take (List.length s2.pg) (s2.pg ++ [])) (List.take (List.length s2.pg + 0 - List.length s2.pg) (List.drop (List.length s2.pg) (s2.pg ++ []))), D.v (Value.int IntKind.i64 s2.st), D.v (Value.int IntKind.i64 s2.pc), D.v (Value.int IntKind.i64 s2.r0), D.v (Value.int IntKind.i64 s2.r1), D.v (Value.int IntKind.i64 s2.r2), D.v (Value.int IntKind.i64 s2.r3), D.s (1) (3) (List.take (List.length s2.rd) (s2.rd ++ [])) (List.take (List.length s2.rd + 0 - List.length s2.rd) (List.drop (List.length s2.rd) (s2.rd ++ []))), D.s (1) (3) (List.take (List.length s2.wt) (s2.wt ++ [])) (List.take (List.length s2.wt + 0 - List.length s2.wt) (List.drop (List.length s2.wt) (s2.wt ++ []))), D.v (Value.int IntKind.i64 s2.at'), D.v (Value.int IntKind.i64 s2.sp), D.v (Value.int IntKind.i64 s2.tr), D.v (Value.int IntKind.i64 s2.rs), D.v (Value.int IntKind.i64 s2.to)], [D.v (Value.int IntKind.i64 s3.id), D.v (Value.int IntKind.i64 s3.lb), D.v (Value.int IntKind.i64 s3.cl), D.s (1) (4) (List.take (List.length s3.pg) (s3.pg ++ [])) (List.take (List.length s3.pg + 0 - List.length s3.pg) (List.drop (List.length s3.pg) (s3.pg ++ []))), D.v (Value.int IntKind.i64 s3.st), D.v (Value.int IntKind.i64 s3.pc), D.v (Value.int IntKind.i64 s3.r0), D.v (Value.int IntKind.i64 s3.r1), D.v (Value.int IntKind.i64 s3.r2), D.v (Value.int IntKind.i64 s3.r3), D.s (1) (3) (List.take (List.length s3.rd) (s3.rd ++ [])) (List.take (List.length s3.rd + 0 - List.length s3.rd) (List.drop (List.length s3.rd) (s3.rd ++ []))), D.s (1) (3) (List.take (List.length s3.wt) (s3.wt ++ [])) (List.take (List.length s3.wt + 0 - List.length s3.wt) (List.drop (List.length s3.wt) (s3.wt ++ []))), D.v (Value.int IntKind.i64 s3.at'), D.v (Value.int IntKind.i64 s3.sp), D.v (Value.int IntKind.i64 s3.tr), D.v (Value.int IntKind.i64 s3.rs), D.v (Value.int IntKind.i64 s3.to)]] [], D.s (1) (4) (List.take (List.length h.tr) (h.tr ++ [])) (List.take (List.length h.tr + 0 - List.length h.tr) (List.drop (List.length h.tr) (h.tr ++ [])))]) else False else False else False else False else False else False else False else False else False else False else False else False else False else False else False else False else False else False else False else False else False else False else False) := by kernel_rfl
theorem smM_spec {h : Mh} {ss : List SesD} (hm : smM h ss = true) : (smR 5864062014635 h.w0 = true ∧ smR 5864062014635 h.w1 = true ∧ smR 5864062014635 h.w2 = true ∧ smR 5864062014635 h.w3 = true) ∧ smR 4398046510977 h.tr = true ∧ ∀ s ∈ ss, smS s = true := by
  unfold smM okC4 okC at hm
  simp only [Bool.and_eq_true, List.all_eq_true] at hm
  unfold smR
  simp only [Bool.and_eq_true]
  refine ⟨⟨hm.1.1, hm.1.2.1, hm.1.2.2.1, hm.1.2.2.2⟩, ?_, hm.2.2⟩
  have := hm.2.1
  unfold smR at this
  rw [Bool.and_eq_true] at this
  exact this
theorem smM_C4 {h : Mh} {ss : List SesD} (hm : smM h ss = true) : okC4 h.w0 h.w1 h.w2 h.w3 = true := by unfold smM at hm; rw [Bool.and_eq_true] at hm; exact hm.1
theorem ownL_mac {h : Mh} {ss : List SesD} (hm : smM h ss = true) : ownL (macL 1 h ss) = true := by
  obtain ⟨⟨a0, a1, a2, a3⟩, a4, a5⟩ := smM_spec hm
  have h6 : ownLL (ss.map (sesL 1)) = true := by
    clear hm
    induction ss with
    | nil => rfl
    | cons s l ih => simp only [List.map_cons, ownLL, ownL_ses (a5 s (by simp)), ih fun q hq => a5 q (by simp [hq])]; rfl
  simp only [macL, ownL, D.pureOwn, ownLL_of (smR_spec a0).1, ownLL_of (smR_spec a1).1, ownLL_of (smR_spec a2).1, ownLL_of (smR_spec a3).1, ownLL_of (smR_spec a4).1, h6, ownLL]; rfl
theorem cCop (h : Mh) (ss : List SesD) (hl : ss.length ≤ 4) (hm : smM h ss = true) : CT Tryz.prog 53 [.agg (macL 0 h ss)] (.agg (macL 1 h ss)) := by
  have h4 := smM_C4 hm
  obtain ⟨⟨a0, a1, a2, a3⟩, a4, a5⟩ := smM_spec hm
  obtain ⟨_, _, b0⟩ := smR_spec a0
  obtain ⟨_, _, b1⟩ := smR_spec a1
  obtain ⟨_, _, b2⟩ := smR_spec a2
  obtain ⟨_, _, b3⟩ := smR_spec a3
  obtain ⟨t1, t2, t3⟩ := smR_spec a4
  rcases ss with _ | ⟨s0, _ | ⟨s1, _ | ⟨s2, _ | ⟨s3, _ | ⟨s4, l⟩⟩⟩⟩⟩
  · refine ct_m (.cons oACopy (.cons oCloneEvents (.cons oSesC .nil))) (.cons oClS .nil) .nil mixed Tryz.func53 rfl rfl rfl ?_
    rw [eCop0]
    refine ⟨?_⟩
    simp only [h4, b0, b1, b2, b3, t1, t2, t3, List.append_nil, Nat.le_refl, decide_true, Bool.and_self, cond_true, takeAll, Nat.add_zero, Nat.sub_self, List.take_zero]
    rfl
  · have q0 := a5 s0 (by simp)
    obtain ⟨p0, r0, w0⟩ := smS_spec q0
    obtain ⟨_, _, x0⟩ := smR_spec p0
    obtain ⟨_, _, y0⟩ := smR_spec r0
    obtain ⟨_, _, z0⟩ := smR_spec w0
    refine ct_m (.cons oACopy (.cons oCloneEvents (.cons oSesC .nil))) (.cons oClS .nil) .nil mixed Tryz.func53 rfl rfl rfl ?_
    rw [eCop1]
    refine ⟨?_⟩
    simp only [h4, b0, b1, b2, b3, t1, t2, t3, q0, x0, y0, z0, List.append_nil, Nat.le_refl, decide_true, Bool.and_self, cond_true, takeAll, Nat.add_zero, Nat.sub_self, List.take_zero]
    rfl
  · have q0 := a5 s0 (by simp)
    obtain ⟨p0, r0, w0⟩ := smS_spec q0
    obtain ⟨_, _, x0⟩ := smR_spec p0
    obtain ⟨_, _, y0⟩ := smR_spec r0
    obtain ⟨_, _, z0⟩ := smR_spec w0
    have q1 := a5 s1 (by simp)
    obtain ⟨p1, r1, w1⟩ := smS_spec q1
    obtain ⟨_, _, x1⟩ := smR_spec p1
    obtain ⟨_, _, y1⟩ := smR_spec r1
    obtain ⟨_, _, z1⟩ := smR_spec w1
    refine ct_m (.cons oACopy (.cons oCloneEvents (.cons oSesC .nil))) (.cons oClS .nil) .nil mixed Tryz.func53 rfl rfl rfl ?_
    rw [eCop2]
    refine ⟨?_⟩
    simp only [h4, b0, b1, b2, b3, t1, t2, t3, q0, x0, y0, z0, q1, x1, y1, z1, List.append_nil, Nat.le_refl, decide_true, Bool.and_self, cond_true, takeAll, Nat.add_zero, Nat.sub_self, List.take_zero]
    rfl
  · have q0 := a5 s0 (by simp)
    obtain ⟨p0, r0, w0⟩ := smS_spec q0
    obtain ⟨_, _, x0⟩ := smR_spec p0
    obtain ⟨_, _, y0⟩ := smR_spec r0
    obtain ⟨_, _, z0⟩ := smR_spec w0
    have q1 := a5 s1 (by simp)
    obtain ⟨p1, r1, w1⟩ := smS_spec q1
    obtain ⟨_, _, x1⟩ := smR_spec p1
    obtain ⟨_, _, y1⟩ := smR_spec r1
    obtain ⟨_, _, z1⟩ := smR_spec w1
    have q2 := a5 s2 (by simp)
    obtain ⟨p2, r2, w2⟩ := smS_spec q2
    obtain ⟨_, _, x2⟩ := smR_spec p2
    obtain ⟨_, _, y2⟩ := smR_spec r2
    obtain ⟨_, _, z2⟩ := smR_spec w2
    refine ct_m (.cons oACopy (.cons oCloneEvents (.cons oSesC .nil))) (.cons oClS .nil) .nil mixed Tryz.func53 rfl rfl rfl ?_
    rw [eCop3]
    refine ⟨?_⟩
    simp only [h4, b0, b1, b2, b3, t1, t2, t3, q0, x0, y0, z0, q1, x1, y1, z1, q2, x2, y2, z2, List.append_nil, Nat.le_refl, decide_true, Bool.and_self, cond_true, takeAll, Nat.add_zero, Nat.sub_self, List.take_zero]
    rfl
  · have q0 := a5 s0 (by simp)
    obtain ⟨p0, r0, w0⟩ := smS_spec q0
    obtain ⟨_, _, x0⟩ := smR_spec p0
    obtain ⟨_, _, y0⟩ := smR_spec r0
    obtain ⟨_, _, z0⟩ := smR_spec w0
    have q1 := a5 s1 (by simp)
    obtain ⟨p1, r1, w1⟩ := smS_spec q1
    obtain ⟨_, _, x1⟩ := smR_spec p1
    obtain ⟨_, _, y1⟩ := smR_spec r1
    obtain ⟨_, _, z1⟩ := smR_spec w1
    have q2 := a5 s2 (by simp)
    obtain ⟨p2, r2, w2⟩ := smS_spec q2
    obtain ⟨_, _, x2⟩ := smR_spec p2
    obtain ⟨_, _, y2⟩ := smR_spec r2
    obtain ⟨_, _, z2⟩ := smR_spec w2
    have q3 := a5 s3 (by simp)
    obtain ⟨p3, r3, w3⟩ := smS_spec q3
    obtain ⟨_, _, x3⟩ := smR_spec p3
    obtain ⟨_, _, y3⟩ := smR_spec r3
    obtain ⟨_, _, z3⟩ := smR_spec w3
    refine ct_m (.cons oACopy (.cons oCloneEvents (.cons oSesC .nil))) (.cons oClS .nil) .nil mixed Tryz.func53 rfl rfl rfl ?_
    rw [eCop4]
    refine ⟨?_⟩
    simp only [h4, b0, b1, b2, b3, t1, t2, t3, q0, x0, y0, z0, q1, x1, y1, z1, q2, x2, y2, z2, q3, x3, y3, z3, List.append_nil, Nat.le_refl, decide_true, Bool.and_self, cond_true, takeAll, Nat.add_zero, Nat.sub_self, List.take_zero]
    rfl
  · simp at hl
def sCop : Spec := fun ds Q => match ds with
  | [d] => macA d fun h ss => cond (Nat.ble ss.length 4 && smM h ss) (Q (.agg (macL 1 h ss))) False
  | _ => False
def iNote : Inl := inlM Tryz.prog [] [] [] Tryz.f54
theorem iNote_ok : InlOK Tryz.prog 54 iNote := inlM_ok .nil .nil .nil mixed Tryz.func54 rfl (goes_of Tryz.func54 (by kernel_rfl) rfl)
end

section
set_option maxHeartbeats 2000000
open Go Go.Proofs
set_option linter.unusedSimpArgs false
set_option linter.unusedVariables false
set_option maxRecDepth 100000
instance : Inhabited SesD := ⟨⟨0, 0, 0, [], 0, 0, 0, 0, 0, 0, [], [], 0, 0, 0, 0, 0⟩⟩
theorem pmay_len {l : List (List Int)} (h : pmay l = true) : l.length ≤ 16 := by unfold pmay at h; simp only [Bool.and_eq_true, decide_eq_true_eq] at h; exact h.2
theorem rmay_len {l : List (List Int)} (h : rmay l = true) : l.length ≤ 16 := by unfold rmay at h; simp only [Bool.and_eq_true, decide_eq_true_eq] at h; exact h.1
theorem wrmay_len {l : List (List Int)} (h : wrmay l = true) : l.length ≤ 16 := by unfold wrmay at h; simp only [Bool.and_eq_true, decide_eq_true_eq] at h; exact h.1
theorem rowMay_len {l : List (List Int)} (h : rowMay l = true) : l.length ≤ 4 := by
  unfold rowMay at h
  simp only [Bool.not_eq_true', Bool.or_eq_false_iff, decide_eq_false_iff_not] at h
  omega
theorem sesMay_sm {R0 R1 R2 R3 : List (List D)} {s : SesD} (hs : okSes s = true) (h : sesMay R0 R1 R2 R3 s = true) : smS s = true := by
  unfold sesMay setsB smay at h
  simp only [Bool.and_eq_true] at h
  unfold okSes at hs
  simp only [Bool.and_eq_true] at hs
  have a1 := pmay_len h.1.2.2.2.2
  have a2 := rmay_len h.2.1.1
  have a3 := wrmay_len h.2.1.2.1
  rw [toZ_len] at a1 a2 a3
  unfold smS
  rw [smR_of hs.1 a1 (by omega), smR_of hs.2.1 a2 (by omega), smR_of hs.2.2 a3 (by omega)]; rfl
theorem mmay_sm {h : Mh} {ss : List SesD} (ho : okM h ss = true) (hm : mmay h ss = true) : smM h ss = true := by
  obtain ⟨h1, h2, h3⟩ := okM_spec ho
  obtain ⟨_, g5⟩ := mmay_ses hm
  unfold mmay amay at hm
  simp only [Bool.and_eq_true, Bool.not_eq_true', decide_eq_false_iff_not] at hm
  obtain ⟨⟨a0, a1, a2, a3⟩, _, _, _, htr, _⟩ := hm
  unfold okA at h1
  simp only [Bool.and_eq_true] at h1
  have l0 := rowMay_len a0
  have l1 := rowMay_len a1
  have l2 := rowMay_len a2
  have l3 := rowMay_len a3
  rw [toZ_len] at l0 l1 l2 l3
  have e0 : okC h.w0 = true := smR_of (n := 5864062014635) h1.1 l0 (by omega)
  have e1 : okC h.w1 = true := smR_of (n := 5864062014635) h1.2.1 l1 (by omega)
  have e2 : okC h.w2 = true := smR_of (n := 5864062014635) h1.2.2.1 l2 (by omega)
  have e3 : okC h.w3 = true := smR_of (n := 5864062014635) h1.2.2.2 l3 (by omega)
  unfold smM okC4
  rw [e0, e1, e2, e3, smR_of (n := 4398046510977) (m := 512) h2 (by omega) (by omega)]
  simp only [Bool.and_self, Bool.true_and, List.all_eq_true]
  intro s hs
  exact sesMay_sm (List.all_eq_true.1 h3 s hs) (g5 s hs)
abbrev macE (e : Int) : DV := .tup [.agg (macL 1 h0 []), I e]
abbrev macR (h : Mh) (ss : List SesD) (e : Int) : DV := .tup [.agg (macL 1 h ss), I e]
theorem sm_facts {h : Mh} {ss : List SesD} (hm : smM h ss = true) : ((h.w0.all fun r => r.all D.keeps) = true ∧ (h.w1.all fun r => r.all D.keeps) = true ∧ (h.w2.all fun r => r.all D.keeps) = true ∧ (h.w3.all fun r => r.all D.keeps) = true) ∧ (h.tr.all fun r => r.all D.keeps) = true ∧ ∀ s ∈ ss, (s.pg.all fun r => r.all D.keeps) = true ∧ (s.rd.all fun r => r.all D.keeps) = true ∧ (s.wt.all fun r => r.all D.keeps) = true := by
  obtain ⟨⟨a0, a1, a2, a3⟩, a4, a5⟩ := smM_spec hm
  exact ⟨⟨(smR_spec a0).2.2, (smR_spec a1).2.2, (smR_spec a2).2.2, (smR_spec a3).2.2⟩, (smR_spec a4).2.2, fun s hs => by
    obtain ⟨p, r, w⟩ := smS_spec (a5 s hs)
    exact ⟨(smR_spec p).2.2, (smR_spec r).2.2, (smR_spec w).2.2⟩⟩
structure Foc (h : Mh) (ss : List SesD) (i : Int) (s : SesD) : Prop where
  at' : ss[i.toNat]? = some s
  ok : okSes s = true
  may : sesMay h.w0 h.w1 h.w2 h.w3 s = true
  lt : i.toNat < ss.length
  i0 : 0 ≤ i
  i1 : i < ss.length
  sm : smM h ss = true
  len : ss.length ≤ 4
  mm : mmay h ss = true
  w0 : allK h.w0 = true
  w1 : allK h.w1 = true
  w2 : allK h.w2 = true
  w3 : allK h.w3 = true
  tr : allK h.tr = true
  tl : h.tr.length ≤ 512
theorem foc {h : Mh} {ss : List SesD} {i : Int} (hok : okM h ss = true) (hm : mthere h ss i = true) : ∃ s, Foc h ss i s := by
  obtain ⟨s, h1, h2, h3⟩ := mthere_at hok hm
  obtain ⟨g0, g1, g2⟩ := mthere_spec hm
  have hsm := mmay_sm hok g0
  obtain ⟨⟨b0, b1, b2, b3⟩, t3, _⟩ := sm_facts hsm
  refine ⟨s, h1, h2, h3, by omega, g1, g2, hsm, (mmay_ses g0).1, g0, b0, b1, b2, b3, t3, ?_⟩
  unfold mmay at g0
  simp only [Bool.and_eq_true, Bool.not_eq_true', decide_eq_false_iff_not] at g0
  omega
theorem Foc.getD {h : Mh} {ss : List SesD} {i : Int} {s : SesD} (f : Foc h ss i s) : ss.getD i.toNat default = s := by
  rw [List.getD_eq_getElem?_getD, f.at']; rfl
theorem Foc.foAt {h : Mh} {ss : List SesD} {i : Int} {s : SesD} (f : Foc h ss i s) : Vm.foAt (addN 0 i.toNat) i.toNat (List.length (List.map (sesL 1) ss)) := foAt_iff.2 ⟨rfl, by rw [List.length_map]; exact f.lt⟩
theorem Foc.ix {h : Mh} {ss : List SesD} {i : Int} {s : SesD} (f : Foc h ss i s) : (decide (0 ≤ i) && decide (i < @Nat.cast Int _ (List.length (List.map (sesL 1) ss)))) = true := by
  rw [List.length_map, decide_eq_true f.i0, decide_eq_true f.i1]; rfl
theorem Foc.row {h : Mh} {ss : List SesD} {i : Int} {s : SesD} (f : Foc h ss i s) : sesAt (List.map (sesL 1) ss) (Int.toNat i) 1 s := sesAt_map f.at'
theorem Foc.ow0 {h : Mh} {ss : List SesD} {i : Int} {s : SesD} (f : Foc h ss i s) : whole h.w0.length h.w0 := whole_self f.w0
theorem Foc.ow1 {h : Mh} {ss : List SesD} {i : Int} {s : SesD} (f : Foc h ss i s) : whole h.w1.length h.w1 := whole_self f.w1
theorem Foc.ow2 {h : Mh} {ss : List SesD} {i : Int} {s : SesD} (f : Foc h ss i s) : whole h.w2.length h.w2 := whole_self f.w2
theorem Foc.ow3 {h : Mh} {ss : List SesD} {i : Int} {s : SesD} (f : Foc h ss i s) : whole h.w3.length h.w3 := whole_self f.w3
theorem Foc.otr {h : Mh} {ss : List SesD} {i : Int} {s : SesD} (f : Foc h ss i s) : whole h.tr.length h.tr := whole_self f.tr
theorem Foc.oss {h : Mh} {ss : List SesD} {i : Int} {s : SesD} (f : Foc h ss i s) (j : Nat) (s' : SesD) : whole (List.length (List.map (sesL 1) ss)) (List.set (List.map (sesL 1) ss) j (sesL 1 s')) := whole_ses (List.length_map _)
theorem whole_add {R : List (List D)} {r : List D} (h : allK R = true) (hr : r.all D.keeps = true) : whole (R.length + 1) (List.take R.length R ++ [r]) := by
  rw [List.take_length]
  refine ⟨by simp, ?_⟩
  unfold allK at *
  rw [List.all_append, h]; simp [hr]
theorem al_macR (h : Mh) (ss : List SesD) (j : Nat) (s : SesD) (e : Int) : AL (.tup [.agg (macLR 1 h (List.set (List.map (sesL 1) ss) j (sesL 1 s))), I e]) (macR h (ss.set j s) e) := by
  rw [set_ses, macLR_eq]; exact AL.refl _
theorem al_e0 (e : Int) : AL (.tup [.agg mac0, I e]) (macE e) := al_err e
theorem gCop : Goes Tryz.prog 53 := goes_of Tryz.func53 (by kernel_rfl) rfl
theorem gAt : Goes Tryz.prog 80 := goes_of Tryz.func80 (by kernel_rfl) rfl
def iCpF (t : Bool) (h : Mh) (ss : List SesD) (i : Int) (s : SesD) : Inl := callM Tryz.prog [34] (sIf t (sAtD [.agg (macL 0 h ss)] (.agg (macL 1 h ss)))) (matF i.toNat s)
theorem own_mac {h : Mh} {ss : List SesD} (hm : smM h ss = true) : (DV.agg (macL 1 h ss)).pureOwn = true := ownL_mac hm
theorem iCpF_ok {t : Bool} {h : Mh} {ss : List SesD} (i : Int) (s : SesD) (hl : t = true → smM h ss = true ∧ ss.length ≤ 4) : InlOK Tryz.prog 53 (iCpF t h ss i s) :=
  callM_ok (matF_ok _ _) (oIf fun ht => oAtD gCop (cCop h ss (hl ht).2 (hl ht).1) (own_mac (hl ht).1) rfl)
theorem there_cpF {h : Mh} {ss : List SesD} (i : Int) (hok : okM h ss = true) : mthere h ss i = true → smM h ss = true ∧ ss.length ≤ 4 := fun hm => by
  obtain ⟨g0, _, _⟩ := mthere_spec hm
  exact ⟨mmay_sm hok g0, (mmay_ses g0).1⟩
theorem allV_add {R : List (List D)} {r : List D} (h : allV R = true) (hr : allV [r] = true) : allV (R ++ [r]) = true := by
  unfold allV at *
  rw [List.all_append, h, hr]; rfl
theorem own_macR {h : Mh} {ss : List SesD} (hm : smM h ss = true) (e : Int) : (macR h ss e).pureOwn = true := by
  have := ownL_mac hm
  simp only [macR, DV.pureOwn, DV.pureOwn.go, this]
  rfl
end

section
open Go Go.Proofs
set_option linter.unusedSimpArgs false
set_option linter.unusedVariables false
set_option maxRecDepth 100000
def wdsB (R0 R1 R2 R3 : List (List D)) (s : SesD) : Bool := !(toZ s.pg).any (noIn R0 R1 R2 R3) && (!(toZ s.wt).any (noWr R0 R1 R2 R3) && !(toZ s.rd).any (noRd R0 R1 R2 R3))
theorem thv_noRd (a b c d : List (List Int)) (l : List (List Int)) : l.all (thv a b c d) = !l.any (noRd (mZ a) (mZ b) (mZ c) (mZ d)) := by
  rw [List.all_eq_not_any_not]
  congr 2
  funext r
  unfold thv noRd thW
  rw [mZ_len, mZ_len, mZ_len, mZ_len]
theorem cWds (R0 R1 R2 R3 : List (List D)) (s : SesD) (hA : okA R0 R1 R2 R3 = true) (hs : okSes s = true) : CT Tryz.prog 120 [.agg (wsL R0 R1 R2 R3), .agg (sesL 0 s)] (B (wdsB R0 R1 R2 R3 s)) := by
  obtain ⟨q0, q1, q2, q3⟩ := okA_spec hA
  obtain ⟨a1, a2, _⟩ := okZ_spec q0
  obtain ⟨b1, b2, _⟩ := okZ_spec q1
  obtain ⟨c1, c2, _⟩ := okZ_spec q2
  obtain ⟨d1, d2, _⟩ := okZ_spec q3
  obtain ⟨e, ⟨hp, hpl⟩, ⟨hr, hrl⟩, ⟨hw, hwl⟩⟩ := okSes_spec hs
  have hz : okZ 3 s.rd = true := by unfold okSes at hs; simp only [Bool.and_eq_true] at hs; exact hs.2.1
  rw [a1, b1, c1, d1] at hA ⊢
  have hz2 : okZ 3 (mZ (toZ s.rd)) = true := by rw [← (okZ_spec hz).1]; exact hz
  rw [e]
  generalize toZ R0 = a at *
  generalize toZ R1 = b at *
  generalize toZ R2 = c at *
  generalize toZ R3 = d at *
  generalize toZ s.pg = p at *
  generalize toZ s.rd = r at *
  generalize toZ s.wt = w at *
  refine ct_sL (m := [(2, fWd1 a b c d s p r w), (8, fWd2 a b c d s p r w)]) (.cons oRThr (.cons oRT .nil)) mixed (loopsAB rfl (by kernel_rfl) (by kernel_rfl) rfl (kWd1 hp hpl) (kWd2 hw hwl)) Tryz.func120 rfl rfl rfl ?_
  rw [eWds]
  unfold wdsB SesD.on
  simp only [toZ_mZ]
  refine ⟨⟨trivial, fun i hi => ?_, fun hn => ⟨trivial, fun i hi => ?_, fun hn2 => ?_⟩⟩⟩
  · rw [hi.any]; rfl
  · rw [hn.any, hi.any]; rfl
  · rw [hn.any, hn2.any, hA, hz2, thv_noRd]; rfl
def sWds : Spec := fun ds Q => match ds with
  | [.agg cs, e] => cond (noOwn cs && Nat.beq cs.length 4) (takeW4 cs fun R0 R1 R2 R3 => sesA e fun s => cond (okA R0 R1 R2 R3 && okSes s) (Q (B (wdsB R0 R1 R2 R3 s))) False) False
  | _ => False
theorem oWds : SpecOK Tryz.prog 120 sWds := o_al Tryz.func120 (by kernel_rfl) rfl fun ds Q h => by
  unfold sWds at h; split at h
  · obtain ⟨h0, h⟩ := cond_P h
    rw [Bool.and_eq_true] at h0
    have hl := beq_true h0.2
    obtain ⟨R0, R1, R2, R3, h, r1⟩ := takeW4_spec h
    obtain ⟨s, h, r2⟩ := sesA_spec h
    obtain ⟨h1, h2⟩ := cond_P h
    rw [Bool.and_eq_true] at h1
    rw [List.take_of_length_le (Nat.le_of_eq hl)] at r1
    exact ⟨_, _, .cons (.agg r1 h0.1 rfl) (.cons r2 .nil), cWds R0 R1 R2 R3 s h1.1 h1.2, rfl, rfl, h2⟩
  · exact h.elim
theorem eUp2 (x l m : Int) (K : DV → Prop) : (ask Tryz.prog [] Tryz.f56 [I x, I l, I m] K) = (bif decide (x ≥ l) then K (DV.c (D.v (Value.bool (decide (x ≤ m))))) else K (DV.c (D.v (Value.bool false)))) := by kernel_rfl
theorem oUp2 : SpecOK Tryz.prog 56 sUp := o_of Tryz.func56 (by kernel_rfl) rfl fun ds Q h => by
  unfold sUp at h; split at h
  · refine ⟨_, ct_ask .nil mixed Tryz.func56 rfl rfl rfl ?_, rfl, rfl, h⟩
    rw [eUp2]; rename_i x l m; unfold upto; cases decide (x ≥ l) <;> rfl
  · exact h.elim
theorem eRSes (h : Mh) (ss : List SesD) (s : SesD) (K : DV → Prop) : (ask Tryz.prog [(92, sSMay), (120, sWds), (56, sUp), (121, sRRgM), (122, sRM), (123, sWMy), (69, sB clk), (91, sB val8)] Tryz.f70 [.agg (macL 0 h ss), .agg (sesL 0 s)] K) = (bif okZ (4) s.pg then bif !smay s.id s.lb s.cl (toZ s.pg) then K (DV.c (D.v (Value.bool false))) else bif okA h.w0 h.w1 h.w2 h.w3 && okSes s then bif !wdsB h.w0 h.w1 h.w2 h.w3 s then K (DV.c (D.v (Value.bool false))) else bif !upto s.st (0) (6) then K (DV.c (D.v (Value.bool false))) else bif !upto s.pc (0) (@Nat.cast Int _ (List.length s.pg)) then K (DV.c (D.v (Value.bool false))) else bif !v4 s.r0 s.r1 s.r2 s.r3 then K (DV.c (D.v (Value.bool false))) else bif okZ (3) s.rd then bif !rmay (toZ s.rd) then K (DV.c (D.v (Value.bool false))) else bif okZ (3) s.wt then bif !wrmay (toZ s.wt) then K (DV.c (D.v (Value.bool false))) else bif upto s.at' (0) (@Nat.cast Int _ (List.length s.wt)) then bif clk s.sp then bif clk s.tr then bif upto s.rs (0) (5) then K (DV.c (D.v (Value.bool (val8 s.to)))) else K (DV.c (D.v (Value.bool false))) else K (DV.c (D.v (Value.bool false))) else K (DV.c (D.v (Value.bool false))) else K (DV.c (D.v (Value.bool false))) else False else False else False else False) := by kernel_rfl
theorem cRSes (h : Mh) (ss : List SesD) (s : SesD) (hA : okA h.w0 h.w1 h.w2 h.w3 = true) (hs : okSes s = true) : CT Tryz.prog 70 [.agg (macL 0 h ss), .agg (sesL 0 s)] (B (sesMay h.w0 h.w1 h.w2 h.w3 s)) := by
  refine ct_s (.cons oRSMay (.cons oWds (.cons oUp2 (.cons oRRgM (.cons oQM (.cons oWPy (.cons oRClk (.cons oRVal .nil)))))))) mixed Tryz.func70 rfl rfl rfl ?_
  rw [eRSes]
  refine ⟨?_⟩
  have hz := hs
  unfold okSes at hz
  simp only [Bool.and_eq_true] at hz
  simp only [hz.1, hz.2.1, hz.2.2, hA, hs, Bool.and_self, cond_true, bifN, bifK]
  unfold sesMay setsB farB numB' wdsB
  congr 3
  ac_rfl
def sRSes : Spec := fun ds Q => match ds with
  | [d, e] => macA d fun h _ => sesA e fun s => cond (okA h.w0 h.w1 h.w2 h.w3 && okSes s) (Q (B (sesMay h.w0 h.w1 h.w2 h.w3 s))) False
  | _ => False
theorem oRSes : SpecOK Tryz.prog 70 sRSes := o_al Tryz.func70 (by kernel_rfl) rfl fun ds Q hq => by
  unfold sRSes at hq; split at hq
  · obtain ⟨h, ss, hq, r1⟩ := macA_spec hq
    obtain ⟨s, hq, r⟩ := sesA_spec hq
    obtain ⟨h1, h2⟩ := cond_P hq
    rw [Bool.and_eq_true] at h1
    exact ⟨_, _, .cons r1 (.cons r .nil), cRSes h ss s h1.1 h1.2, rfl, rfl, h2⟩
  · exact hq.elim
def stTr (h : Mh) (ss : List SesD) (v : Bool) (i : Int) : X := ⟨mkT 90 [(1, .c (.rp 2 0 11 0 0)), (2, ab v), (5, ai i)], [(2, .bx 0 11 ((macL 0 h ss).map C.d))], [], []⟩
def v_stTr (h : Mh) (ss : List SesD) : Vw := fun y K => wB y 2 fun v => wI y 5 fun i => K (stTr h ss v i)
theorem v_stTr_ok (h : Mh) (ss : List SesD) : VwOK (v_stTr h ss) := fun y K h => by
  unfold v_stTr at h
  obtain ⟨v, h⟩ := wB_ex h
  obtain ⟨i, h⟩ := wI_ex h
  exact ⟨_, h⟩
theorem rTr (h : Mh) (ss : List SesD) (v : Bool) (i : Int) (N : X → Prop) (E : Exit → X → Prop) : (roundV Tryz.prog (hkA band bor [(71, sB lab)] []) Tryz.f27 2 [] [1, 2, 5] [2] (v_stTr h ss) (fun _ => v_stTr h ss) N E (stTr h ss v i)) = (bif decide (i < @Nat.cast Int _ (List.length h.tr)) then bif decide (0 ≤ i) && decide (i < @Nat.cast Int _ (List.length h.tr)) then bif isJ [IntKind.i64] (List.drop (1) (List.getD h.tr (Int.toNat i) [])) then bif !lab (hdJ (List.drop (1) (List.getD h.tr (Int.toNat i) []))) then stTr h ss false i = stTr h ss false i ∧ E Exit.ret (stTr h ss false i) else stTr h ss v (IntKind.wrap IntKind.i64 (i + 1)) = stTr h ss v (IntKind.wrap IntKind.i64 (i + 1)) ∧ N (stTr h ss v (IntKind.wrap IntKind.i64 (i + 1))) else False else False else stTr h ss v i = stTr h ss v i ∧ E (Exit.exit (4)) (stTr h ss v i)) := by kernel_rfl
def Mh.on (h : Mh) (t : List (List Int)) : Mh := { h with tr := mZ t }
def fTr (h : Mh) (ss : List SesD) (t : List (List Int)) : LSum := findS [1, 2, 5] [2] (fun i => stTr (h.on t) ss false i) (fun i => stTr (h.on t) ss false i) t.length (fun i => noEv (t.getD i [])) .ret (.exit 4)
theorem kTr {h : Mh} {ss : List SesD} {t : List (List Int)} (hw : wid 4 t) (hn : t.length ≤ 9223372036854775807) (Q : Exit → X → Prop) (x : X) (hq : fTr h ss t Q x) : XWP Tryz.prog (.loop (bodyL Tryz.f27 2)) Q x := by
  refine xwp_findV (sw := []) (V := v_stTr (h.on t) ss) (VE := fun _ => v_stTr (h.on t) ss) mixed (v_stTr_ok (h.on t) ss) (fun _ => v_stTr_ok (h.on t) ss) _ _ _ _ _ _ (fun i hl => ⟨hkA band bor [(71, sB lab)] [], hkl_ok (.cons oRLab .nil), loops_nil rfl, fun N E h1 h2 => ?_⟩) ⟨hkA band bor [(71, sB lab)] [], hkl_ok (.cons oRLab .nil), loops_nil rfl, fun N E h1 => ?_⟩ Q x hq
  · rw [rTr]
    have wi : IntKind.wrap .i64 ((i : Int) + 1) = ((i + 1 : Nat) : Int) := wrap_nat (n := 1) (by omega)
    have a1 : isJ [IntKind.i64] (List.drop 1 ((mZ t).getD i [])) = true := isJ_mZ (j := 1) (n := 1) hw hl (by omega)
    simp only [Mh.on, mZ_len, Int.ofNat_lt, hl, decide_true, cond_true, Int.natCast_nonneg, Bool.and_self, Int.toNat_natCast, a1, hdJ_mZ, true_and, wi] at h1 h2 ⊢
    unfold noEv at h1 h2
    generalize lab ((t.getD i []).getD 1 0) = u at h1 h2 ⊢
    cases u <;> simp only [cond_true, cond_false, Bool.not_true, Bool.not_false, forall_const, reduceCtorEq, false_implies] at h1 h2 ⊢ <;> first | exact h1 | exact h2 | exact h1 trivial | exact h2 trivial
  · rw [rTr]
    simp only [Mh.on, mZ_len, Int.ofNat_lt, Nat.lt_irrefl, decide_false, cond_false, true_and]
    exact h1
theorem eRM_0 (h : Mh) (t : List (List Int)) (K : DV → Prop) : (askL Tryz.prog [(68, sAMay), (69, sB clk), (56, sUp), (70, sRSes)] [(14, fTr h [] t)] Tryz.f27 [.agg (macL 0 (h.on t) [])] K) = (bif okA h.w0 h.w1 h.w2 h.w3 then bif !amay (toZ h.w0) (toZ h.w1) (toZ h.w2) (toZ h.w3) then K (DV.c (D.v (Value.bool false))) else bif !clk h.ce then K (DV.c (D.v (Value.bool false))) else bif decide (@Nat.cast Int _ (List.length (mZ t)) > 512) then K (DV.c (D.v (Value.bool false))) else bif !upto h.c0 (0) h.ce then K (DV.c (D.v (Value.bool false))) else bif !upto h.c1 (0) h.ce then K (DV.c (D.v (Value.bool false))) else bif !upto h.c2 (0) h.ce then K (DV.c (D.v (Value.bool false))) else bif !upto h.c3 (0) h.ce then K (DV.c (D.v (Value.bool false))) else stTr { w0 := h.w0, w1 := h.w1, w2 := h.w2, w3 := h.w3, c0 := h.c0, c1 := h.c1, c2 := h.c2, c3 := h.c3, ce := h.ce, tr := mZ t } [] false (0) = stTr { w0 := h.w0, w1 := h.w1, w2 := h.w2, w3 := h.w3, c0 := h.c0, c1 := h.c1, c2 := h.c2, c3 := h.c3, ce := h.ce, tr := mZ t } [] false (0) ∧ (∀ (i : Nat), firstAt (fun i => noEv (List.getD t i [])) (List.length t) i → K (DV.c (D.v (Value.bool false)))) ∧ (noneTo (fun i => noEv (List.getD t i [])) (List.length t) → K (DV.c (D.v (Value.bool true)))) else False) := by kernel_rfl
theorem eRM_1 (h : Mh) (s0 : SesD) (t : List (List Int)) (K : DV → Prop) : (askL Tryz.prog [(68, sAMay), (69, sB clk), (56, sUp), (70, sRSes)] [(14, fTr h [s0] t)] Tryz.f27 [.agg (macL 0 (h.on t) [s0])] K) = (bif okA h.w0 h.w1 h.w2 h.w3 then bif !amay (toZ h.w0) (toZ h.w1) (toZ h.w2) (toZ h.w3) then K (DV.c (D.v (Value.bool false))) else bif !clk h.ce then K (DV.c (D.v (Value.bool false))) else bif decide (@Nat.cast Int _ (List.length (mZ t)) > 512) then K (DV.c (D.v (Value.bool false))) else bif !upto h.c0 (0) h.ce then K (DV.c (D.v (Value.bool false))) else bif !upto h.c1 (0) h.ce then K (DV.c (D.v (Value.bool false))) else bif !upto h.c2 (0) h.ce then K (DV.c (D.v (Value.bool false))) else bif !upto h.c3 (0) h.ce then K (DV.c (D.v (Value.bool false))) else bif okA h.w0 h.w1 h.w2 h.w3 && okSes s0 then bif !sesMay h.w0 h.w1 h.w2 h.w3 s0 then K (DV.c (D.v (Value.bool false))) else stTr { w0 := h.w0, w1 := h.w1, w2 := h.w2, w3 := h.w3, c0 := h.c0, c1 := h.c1, c2 := h.c2, c3 := h.c3, ce := h.ce, tr := mZ t } [s0] false (0) = stTr { w0 := h.w0, w1 := h.w1, w2 := h.w2, w3 := h.w3, c0 := h.c0, c1 := h.c1, c2 := h.c2, c3 := h.c3, ce := h.ce, tr := mZ t } [s0] false (0) ∧ (∀ (i : Nat), firstAt (fun i => noEv (List.getD t i [])) (List.length t) i → K (DV.c (D.v (Value.bool false)))) ∧ (noneTo (fun i => noEv (List.getD t i [])) (List.length t) → K (DV.c (D.v (Value.bool true)))) else False else False) := by kernel_rfl
theorem eRM_2 (h : Mh) (s0 s1 : SesD) (t : List (List Int)) (K : DV → Prop) : (askL Tryz.prog [(68, sAMay), (69, sB clk), (56, sUp), (70, sRSes)] [(14, fTr h [s0, s1] t)] Tryz.f27 [.agg (macL 0 (h.on t) [s0, s1])] K) = (bif okA h.w0 h.w1 h.w2 h.w3 then bif !amay (toZ h.w0) (toZ h.w1) (toZ h.w2) (toZ h.w3) then K (DV.c (D.v (Value.bool false))) else bif !clk h.ce then K (DV.c (D.v (Value.bool false))) else bif decide (@Nat.cast Int _ (List.length (mZ t)) > 512) then K (DV.c (D.v (Value.bool false))) else bif !upto h.c0 (0) h.ce then K (DV.c (D.v (Value.bool false))) else bif !upto h.c1 (0) h.ce then K (DV.c (D.v (Value.bool false))) else bif !upto h.c2 (0) h.ce then K (DV.c (D.v (Value.bool false))) else bif !upto h.c3 (0) h.ce then K (DV.c (D.v (Value.bool false))) else bif okA h.w0 h.w1 h.w2 h.w3 && okSes s0 then bif !sesMay h.w0 h.w1 h.w2 h.w3 s0 then K (DV.c (D.v (Value.bool false))) else bif okA h.w0 h.w1 h.w2 h.w3 && okSes s1 then bif !sesMay h.w0 h.w1 h.w2 h.w3 s1 then K (DV.c (D.v (Value.bool false))) else bif decide (s1.id ≤ s0.id) then K (DV.c (D.v (Value.bool false))) else stTr { w0 := h.w0, w1 := h.w1, w2 := h.w2, w3 := h.w3, c0 := h.c0, c1 := h.c1, c2 := h.c2, c3 := h.c3, ce := h.ce, tr := mZ t } [s0, s1] false (0) = stTr { w0 := h.w0, w1 := h.w1, w2 := h.w2, w3 := h.w3, c0 := h.c0, c1 := h.c1, c2 := h.c2, c3 := h.c3, ce := h.ce, tr := mZ t } [s0, s1] false (0) ∧ (∀ (i : Nat), firstAt (fun i => noEv (List.getD t i [])) (List.length t) i → K (DV.c (D.v (Value.bool false)))) ∧ (noneTo (fun i => noEv (List.getD t i [])) (List.length t) → K (DV.c (D.v (Value.bool true)))) else False else False else False) := by kernel_rfl
theorem eRM_3 (h : Mh) (s0 s1 s2 : SesD) (t : List (List Int)) (K : DV → Prop) : (askL Tryz.prog [(68, sAMay), (69, sB clk), (56, sUp), (70, sRSes)] [(14, fTr h [s0, s1, s2] t)] Tryz.f27 [.agg (macL 0 (h.on t) [s0, s1, s2])] K) = (bif okA h.w0 h.w1 h.w2 h.w3 then bif !amay (toZ h.w0) (toZ h.w1) (toZ h.w2) (toZ h.w3) then K (DV.c (D.v (Value.bool false))) else bif !clk h.ce then K (DV.c (D.v (Value.bool false))) else bif decide (@Nat.cast Int _ (List.length (mZ t)) > 512) then K (DV.c (D.v (Value.bool false))) else bif !upto h.c0 (0) h.ce then K (DV.c (D.v (Value.bool false))) else bif !upto h.c1 (0) h.ce then K (DV.c (D.v (Value.bool false))) else bif !upto h.c2 (0) h.ce then K (DV.c (D.v (Value.bool false))) else bif !upto h.c3 (0) h.ce then K (DV.c (D.v (Value.bool false))) else bif okA h.w0 h.w1 h.w2 h.w3 && okSes s0 then bif !sesMay h.w0 h.w1 h.w2 h.w3 s0 then K (DV.c (D.v (Value.bool false))) else bif okA h.w0 h.w1 h.w2 h.w3 && okSes s1 then bif !sesMay h.w0 h.w1 h.w2 h.w3 s1 then K (DV.c (D.v (Value.bool false))) else bif decide (s1.id ≤ s0.id) then K (DV.c (D.v (Value.bool false))) else bif okA h.w0 h.w1 h.w2 h.w3 && okSes s2 then bif !sesMay h.w0 h.w1 h.w2 h.w3 s2 then K (DV.c (D.v (Value.bool false))) else bif decide (s2.id ≤ s1.id) then K (DV.c (D.v (Value.bool false))) else stTr { w0 := h.w0, w1 := h.w1, w2 := h.w2, w3 := h.w3, c0 := h.c0, c1 := h.c1, c2 := h.c2, c3 := h.c3, ce := h.ce, tr := mZ t } [s0, s1, s2] false (0) = stTr { w0 := h.w0, w1 := h.w1, w2 := h.w2, w3 := h.w3, c0 := h.c0, c1 := h.c1, c2 := h.c2, c3 := h.c3, ce := h.ce, tr := mZ t } [s0, s1, s2] false (0) ∧ (∀ (i : Nat), firstAt (fun i => noEv (List.getD t i [])) (List.length t) i → K (DV.c (D.v (Value.bool false)))) ∧ (noneTo (fun i => noEv (List.getD t i [])) (List.length t) → K (DV.c (D.v (Value.bool true)))) else False else False else False else False) := by kernel_rfl
theorem eRM_4 (h : Mh) (s0 s1 s2 s3 : SesD) (t : List (List Int)) (K : DV → Prop) : (askL Tryz.prog [(68, sAMay), (69, sB clk), (56, sUp), (70, sRSes)] [(14, fTr h [s0, s1, s2, s3] t)] Tryz.f27 [.agg (macL 0 (h.on t) [s0, s1, s2, s3])] K) = (bif okA h.w0 h.w1 h.w2 h.w3 then bif !amay (toZ h.w0) (toZ h.w1) (toZ h.w2) (toZ h.w3) then K (DV.c (D.v (Value.bool false))) else bif !clk h.ce then K (DV.c (D.v (Value.bool false))) else bif decide (@Nat.cast Int _ (List.length (mZ t)) > 512) then K (DV.c (D.v (Value.bool false))) else bif !upto h.c0 (0) h.ce then K (DV.c (D.v (Value.bool false))) else bif !upto h.c1 (0) h.ce then K (DV.c (D.v (Value.bool false))) else bif !upto h.c2 (0) h.ce then K (DV.c (D.v (Value.bool false))) else bif !upto h.c3 (0) h.ce then K (DV.c (D.v (Value.bool false))) else bif okA h.w0 h.w1 h.w2 h.w3 && okSes s0 then bif !sesMay h.w0 h.w1 h.w2 h.w3 s0 then K (DV.c (D.v (Value.bool false))) else bif okA h.w0 h.w1 h.w2 h.w3 && okSes s1 then bif !sesMay h.w0 h.w1 h.w2 h.w3 s1 then K (DV.c (D.v (Value.bool false))) else bif decide (s1.id ≤ s0.id) then K (DV.c (D.v (Value.bool false))) else bif okA h.w0 h.w1 h.w2 h.w3 && okSes s2 then bif !sesMay h.w0 h.w1 h.w2 h.w3 s2 then K (DV.c (D.v (Value.bool false))) else bif decide (s2.id ≤ s1.id) then K (DV.c (D.v (Value.bool false))) else bif okA h.w0 h.w1 h.w2 h.w3 && okSes s3 then bif !sesMay h.w0 h.w1 h.w2 h.w3 s3 then K (DV.c (D.v (Value.bool false))) else bif decide (s3.id ≤ s2.id) then K (DV.c (D.v (Value.bool false))) else stTr { w0 := h.w0, w1 := h.w1, w2 := h.w2, w3 := h.w3, c0 := h.c0, c1 := h.c1, c2 := h.c2, c3 := h.c3, ce := h.ce, tr := mZ t } [s0, s1, s2, s3] false (0) = stTr { w0 := h.w0, w1 := h.w1, w2 := h.w2, w3 := h.w3, c0 := h.c0, c1 := h.c1, c2 := h.c2, c3 := h.c3, ce := h.ce, tr := mZ t } [s0, s1, s2, s3] false (0) ∧ (∀ (i : Nat), firstAt (fun i => noEv (List.getD t i [])) (List.length t) i → K (DV.c (D.v (Value.bool false)))) ∧ (noneTo (fun i => noEv (List.getD t i [])) (List.length t) → K (DV.c (D.v (Value.bool true)))) else False else False else False else False else False) := by kernel_rfl
theorem eRM_B (h : Mh) (ss : List SesD) (K : DV → Prop) : (askL Tryz.prog [(68, sAMay), (69, sB clk), (56, sUp)] [(4, fun _ _ => False)] Tryz.f27 [.agg (macL 0 h ss)] K) = (bif okA h.w0 h.w1 h.w2 h.w3 then bif !amay (toZ h.w0) (toZ h.w1) (toZ h.w2) (toZ h.w3) then K (DV.c (D.v (Value.bool false))) else bif !clk h.ce then K (DV.c (D.v (Value.bool false))) else bif decide (@Nat.cast Int _ (List.length (List.map (sesL (0)) ss)) > 4) then K (DV.c (D.v (Value.bool false))) else bif decide (@Nat.cast Int _ (List.length h.tr) > 512) then K (DV.c (D.v (Value.bool false))) else False else False) := by kernel_rfl
end

section
set_option maxHeartbeats 2000000
open Go Go.Proofs
set_option linter.unusedSimpArgs false
set_option linter.unusedVariables false
set_option maxRecDepth 100000
theorem mx_le (a b e : Int) : decide (mx a b > e) = (decide (a > e) || decide (b > e)) := by
  rw [Bool.eq_iff_iff]
  simp only [Bool.or_eq_true, decide_eq_true_eq]
  unfold mx
  split <;> omega
theorem ck_up (c0 c1 c2 c3 e : Int) : ((ck4 c0 c1 c2 c3 && clk e) && !decide (mx4 c0 c1 c2 c3 > e)) = (clk e && (upto c0 0 e && (upto c1 0 e && (upto c2 0 e && upto c3 0 e)))) := by
  unfold mx4
  rw [mx_le, mx_le, mx_le, Bool.eq_iff_iff]
  unfold ck4 clk upto
  simp only [Bool.and_eq_true, Bool.not_eq_true', Bool.or_eq_false_iff, decide_eq_true_eq, decide_eq_false_iff_not]
  omega
theorem idsNot (a b : Int) : (!decide (a ≥ b)) = !decide (b ≤ a) := rfl
theorem bN {p : Bool} {R : Prop} {q : Bool} (h : p = true → R) (h2 : p = false → q = false) : bif !p then (DV.c (.v (.bool false)) = B q) else R := by
  cases p
  · rw [h2 rfl]; rfl
  · exact h rfl
theorem bP {p : Bool} {R : Prop} {q : Bool} (h : p = false → R) (h2 : p = true → q = false) : bif p then (DV.c (.v (.bool false)) = B q) else R := by
  cases p
  · exact h rfl
  · rw [h2 rfl]; rfl
theorem bO {p : Bool} {R : Prop} (hp : p = true) (h : R) : bif p then R else False := by rw [hp]; exact h
theorem bT {T : Prop} {t : List (List Int)} {q : Bool} (hT : T) (h1 : t.any noEv = true → q = false) (h2 : t.any noEv = false → q = true) : T ∧ (∀ i : Nat, firstAt (fun i => noEv (List.getD t i [])) (List.length t) i → (DV.c (.v (.bool false)) = B q)) ∧ (noneTo (fun i => noEv (List.getD t i [])) (List.length t) → (DV.c (.v (.bool true)) = B q)) :=
  ⟨hT, fun i hi => by rw [h1 hi.any], fun hn => by rw [h2 hn.any]⟩
theorem loopsD {P : Program} {l : List (FuncId × Spec)} {fn : Func} {k1 k2 k3 : Nat} {s3 : LSum} (hn : (loopsOf (bodyOf fn)).length = 3) (e1 : loopId (bodyL fn 0) = k1) (e2 : loopId (bodyL fn 1) = k2) (e3 : loopId (bodyL fn 2) = k3) (n1 : Nat.beq k3 k1 = false) (n2 : Nat.beq k3 k2 = false) (h3 : ∀ Q x, s3 Q x → XWP P (.loop (bodyL fn 2)) Q x) : LoopsOK P (hkl l [(k3, s3)]) (bodyOf fn) :=
  loops_ok 3 hn fun i hi s hs Q x hq => by
    match i, hi with
    | 0, _ =>
      rw [e1] at hs
      have hs' : lookL [(k3, s3)] k1 = some s := hs
      simp only [lookL, n1] at hs'
      cases hs'
    | 1, _ =>
      rw [e2] at hs
      have hs' : lookL [(k3, s3)] k2 = some s := hs
      simp only [lookL, n2] at hs'
      cases hs'
    | 2, _ =>
      rw [e3] at hs
      have hs' : some s3 = some s := by simpa [lookL, hkl, hkA, beq_self] using hs
      cases hs'
      exact h3 Q x hq
theorem loopsTr {h : Mh} {ss : List SesD} {t : List (List Int)} (hw : wid 4 t) (hl : t.length ≤ 9223372036854775807) : LoopsOK Tryz.prog (hkl [(68, sAMay), (69, sB clk), (56, sUp), (70, sRSes)] [(14, fTr h ss t)]) (bodyOf Tryz.f27) :=
  loopsD rfl rfl rfl (by kernel_rfl) (by kernel_rfl) (by kernel_rfl) (fun Q x hq => kTr hw hl Q x hq)
theorem cRMt (h : Mh) (ss : List SesD) (t : List (List Int)) (hA : okA h.w0 h.w1 h.w2 h.w3 = true) (hw : wid 4 t) (hl : t.length ≤ 9223372036854775807) (hs : okSS ss = true) : CT Tryz.prog 27 [.agg (macL 0 (h.on t) ss)] (B (mmay (h.on t) ss)) := by
  have hq : ∀ s ∈ ss, okSes s = true := List.all_eq_true.1 hs
  rcases ss with _ | ⟨s0, _ | ⟨s1, _ | ⟨s2, _ | ⟨s3, _ | ⟨s4, l⟩⟩⟩⟩⟩
  · 
    have key : mmay (h.on t) [] = (amay (toZ h.w0) (toZ h.w1) (toZ h.w2) (toZ h.w3) && (clk h.ce && (!decide (((mZ t).length : Int) > 512) && (upto h.c0 0 h.ce && (upto h.c1 0 h.ce && (upto h.c2 0 h.ce && (upto h.c3 0 h.ce && !t.any noEv))))))) := by
      show (amay (toZ h.w0) (toZ h.w1) (toZ h.w2) (toZ h.w3) && ((ck4 h.c0 h.c1 h.c2 h.c3 && clk h.ce) && (!decide (mx4 h.c0 h.c1 h.c2 h.c3 > h.ce) && (!decide ((([] : List SesD).length : Int) > 4) && (!decide (((mZ t).length : Int) > 512) && (idsUp [] && (([] : List SesD).all (sesMay h.w0 h.w1 h.w2 h.w3) && !(toZ (mZ t)).any noEv))))))) = _
      rw [toZ_mZ, ← Bool.and_assoc (ck4 h.c0 h.c1 h.c2 h.c3 && clk h.ce), ck_up]
      simp only [idsUp, List.all_cons, List.all_nil, Bool.and_true, Bool.true_and, idsNot, (by simp : (!decide ((([] : List SesD).length : Int) > 4)) = true)]
      try ac_rfl
    refine ct_sL (m := [(14, fTr h [] t)]) (.cons oRAMay (.cons oRClk (.cons oUp2 (.cons oRSes .nil)))) mixed (loopsTr hw hl) Tryz.func27 rfl rfl rfl ?_
    rw [eRM_0]
    refine ⟨?_⟩
    refine bO hA ?_
    refine bN (fun gA => ?_) (fun g => by rw [key, g]; rfl)
    refine bN (fun gC => ?_) (fun g => by rw [key, gA, g]; rfl)
    refine bP (fun gT => ?_) (fun g => by rw [key, gA, gC, g]; rfl)
    refine bN (fun gc0 => ?_) (fun g => by rw [key, gA, gC, gT, g]; simp)
    refine bN (fun gc1 => ?_) (fun g => by rw [key, gA, gC, gT, gc0, g]; simp)
    refine bN (fun gc2 => ?_) (fun g => by rw [key, gA, gC, gT, gc0, gc1, g]; simp)
    refine bN (fun gc3 => ?_) (fun g => by rw [key, gA, gC, gT, gc0, gc1, gc2, g]; simp)
    exact bT rfl (fun g => by rw [key, gA, gC, gT, gc0, gc1, gc2, gc3, g]; rfl) (fun g => by rw [key, gA, gC, gT, gc0, gc1, gc2, gc3, g]; rfl)
  · 
    have q0 : okSes s0 = true := hq s0 (by simp)
    have key : mmay (h.on t) [s0] = (amay (toZ h.w0) (toZ h.w1) (toZ h.w2) (toZ h.w3) && (clk h.ce && (!decide (((mZ t).length : Int) > 512) && (upto h.c0 0 h.ce && (upto h.c1 0 h.ce && (upto h.c2 0 h.ce && (upto h.c3 0 h.ce && (sesMay h.w0 h.w1 h.w2 h.w3 s0 && !t.any noEv)))))))) := by
      show (amay (toZ h.w0) (toZ h.w1) (toZ h.w2) (toZ h.w3) && ((ck4 h.c0 h.c1 h.c2 h.c3 && clk h.ce) && (!decide (mx4 h.c0 h.c1 h.c2 h.c3 > h.ce) && (!decide ((([s0] : List SesD).length : Int) > 4) && (!decide (((mZ t).length : Int) > 512) && (idsUp [s0] && (([s0] : List SesD).all (sesMay h.w0 h.w1 h.w2 h.w3) && !(toZ (mZ t)).any noEv))))))) = _
      rw [toZ_mZ, ← Bool.and_assoc (ck4 h.c0 h.c1 h.c2 h.c3 && clk h.ce), ck_up]
      simp only [idsUp, List.all_cons, List.all_nil, Bool.and_true, Bool.true_and, idsNot, (by simp : (!decide ((([s0] : List SesD).length : Int) > 4)) = true)]
      try ac_rfl
    refine ct_sL (m := [(14, fTr h [s0] t)]) (.cons oRAMay (.cons oRClk (.cons oUp2 (.cons oRSes .nil)))) mixed (loopsTr hw hl) Tryz.func27 rfl rfl rfl ?_
    rw [eRM_1]
    refine ⟨?_⟩
    refine bO hA ?_
    refine bN (fun gA => ?_) (fun g => by rw [key, g]; rfl)
    refine bN (fun gC => ?_) (fun g => by rw [key, gA, g]; rfl)
    refine bP (fun gT => ?_) (fun g => by rw [key, gA, gC, g]; rfl)
    refine bN (fun gc0 => ?_) (fun g => by rw [key, gA, gC, gT, g]; simp)
    refine bN (fun gc1 => ?_) (fun g => by rw [key, gA, gC, gT, gc0, g]; simp)
    refine bN (fun gc2 => ?_) (fun g => by rw [key, gA, gC, gT, gc0, gc1, g]; simp)
    refine bN (fun gc3 => ?_) (fun g => by rw [key, gA, gC, gT, gc0, gc1, gc2, g]; simp)
    refine bO (by rw [hA, q0]; rfl) ?_
    refine bN (fun gs0 => ?_) (fun g => by rw [key, gA, gC, gT, gc0, gc1, gc2, gc3, g]; simp)
    exact bT rfl (fun g => by rw [key, gA, gC, gT, gc0, gc1, gc2, gc3, gs0, g]; rfl) (fun g => by rw [key, gA, gC, gT, gc0, gc1, gc2, gc3, gs0, g]; rfl)
  · 
    have q0 : okSes s0 = true := hq s0 (by simp)
    have q1 : okSes s1 = true := hq s1 (by simp)
    have key : mmay (h.on t) [s0, s1] = (amay (toZ h.w0) (toZ h.w1) (toZ h.w2) (toZ h.w3) && (clk h.ce && (!decide (((mZ t).length : Int) > 512) && (upto h.c0 0 h.ce && (upto h.c1 0 h.ce && (upto h.c2 0 h.ce && (upto h.c3 0 h.ce && (sesMay h.w0 h.w1 h.w2 h.w3 s0 && (sesMay h.w0 h.w1 h.w2 h.w3 s1 && (!decide (s1.id ≤ s0.id) && !t.any noEv)))))))))) := by
      show (amay (toZ h.w0) (toZ h.w1) (toZ h.w2) (toZ h.w3) && ((ck4 h.c0 h.c1 h.c2 h.c3 && clk h.ce) && (!decide (mx4 h.c0 h.c1 h.c2 h.c3 > h.ce) && (!decide ((([s0, s1] : List SesD).length : Int) > 4) && (!decide (((mZ t).length : Int) > 512) && (idsUp [s0, s1] && (([s0, s1] : List SesD).all (sesMay h.w0 h.w1 h.w2 h.w3) && !(toZ (mZ t)).any noEv))))))) = _
      rw [toZ_mZ, ← Bool.and_assoc (ck4 h.c0 h.c1 h.c2 h.c3 && clk h.ce), ck_up]
      simp only [idsUp, List.all_cons, List.all_nil, Bool.and_true, Bool.true_and, idsNot, (by simp : (!decide ((([s0, s1] : List SesD).length : Int) > 4)) = true)]
      try ac_rfl
    refine ct_sL (m := [(14, fTr h [s0, s1] t)]) (.cons oRAMay (.cons oRClk (.cons oUp2 (.cons oRSes .nil)))) mixed (loopsTr hw hl) Tryz.func27 rfl rfl rfl ?_
    rw [eRM_2]
    refine ⟨?_⟩
    refine bO hA ?_
    refine bN (fun gA => ?_) (fun g => by rw [key, g]; rfl)
    refine bN (fun gC => ?_) (fun g => by rw [key, gA, g]; rfl)
    refine bP (fun gT => ?_) (fun g => by rw [key, gA, gC, g]; rfl)
    refine bN (fun gc0 => ?_) (fun g => by rw [key, gA, gC, gT, g]; simp)
    refine bN (fun gc1 => ?_) (fun g => by rw [key, gA, gC, gT, gc0, g]; simp)
    refine bN (fun gc2 => ?_) (fun g => by rw [key, gA, gC, gT, gc0, gc1, g]; simp)
    refine bN (fun gc3 => ?_) (fun g => by rw [key, gA, gC, gT, gc0, gc1, gc2, g]; simp)
    refine bO (by rw [hA, q0]; rfl) ?_
    refine bN (fun gs0 => ?_) (fun g => by rw [key, gA, gC, gT, gc0, gc1, gc2, gc3, g]; simp)
    refine bO (by rw [hA, q1]; rfl) ?_
    refine bN (fun gs1 => ?_) (fun g => by rw [key, gA, gC, gT, gc0, gc1, gc2, gc3, gs0, g]; simp)
    refine bP (fun gi1 => ?_) (fun g => by rw [key, gA, gC, gT, gc0, gc1, gc2, gc3, gs0, gs1, g]; simp)
    exact bT rfl (fun g => by rw [key, gA, gC, gT, gc0, gc1, gc2, gc3, gs0, gs1, gi1, g]; rfl) (fun g => by rw [key, gA, gC, gT, gc0, gc1, gc2, gc3, gs0, gs1, gi1, g]; rfl)
  · 
    have q0 : okSes s0 = true := hq s0 (by simp)
    have q1 : okSes s1 = true := hq s1 (by simp)
    have q2 : okSes s2 = true := hq s2 (by simp)
    have key : mmay (h.on t) [s0, s1, s2] = (amay (toZ h.w0) (toZ h.w1) (toZ h.w2) (toZ h.w3) && (clk h.ce && (!decide (((mZ t).length : Int) > 512) && (upto h.c0 0 h.ce && (upto h.c1 0 h.ce && (upto h.c2 0 h.ce && (upto h.c3 0 h.ce && (sesMay h.w0 h.w1 h.w2 h.w3 s0 && (sesMay h.w0 h.w1 h.w2 h.w3 s1 && (!decide (s1.id ≤ s0.id) && (sesMay h.w0 h.w1 h.w2 h.w3 s2 && (!decide (s2.id ≤ s1.id) && !t.any noEv)))))))))))) := by
      show (amay (toZ h.w0) (toZ h.w1) (toZ h.w2) (toZ h.w3) && ((ck4 h.c0 h.c1 h.c2 h.c3 && clk h.ce) && (!decide (mx4 h.c0 h.c1 h.c2 h.c3 > h.ce) && (!decide ((([s0, s1, s2] : List SesD).length : Int) > 4) && (!decide (((mZ t).length : Int) > 512) && (idsUp [s0, s1, s2] && (([s0, s1, s2] : List SesD).all (sesMay h.w0 h.w1 h.w2 h.w3) && !(toZ (mZ t)).any noEv))))))) = _
      rw [toZ_mZ, ← Bool.and_assoc (ck4 h.c0 h.c1 h.c2 h.c3 && clk h.ce), ck_up]
      simp only [idsUp, List.all_cons, List.all_nil, Bool.and_true, Bool.true_and, idsNot, (by simp : (!decide ((([s0, s1, s2] : List SesD).length : Int) > 4)) = true)]
      try ac_rfl
    refine ct_sL (m := [(14, fTr h [s0, s1, s2] t)]) (.cons oRAMay (.cons oRClk (.cons oUp2 (.cons oRSes .nil)))) mixed (loopsTr hw hl) Tryz.func27 rfl rfl rfl ?_
    rw [eRM_3]
    refine ⟨?_⟩
    refine bO hA ?_
    refine bN (fun gA => ?_) (fun g => by rw [key, g]; rfl)
    refine bN (fun gC => ?_) (fun g => by rw [key, gA, g]; rfl)
    refine bP (fun gT => ?_) (fun g => by rw [key, gA, gC, g]; rfl)
    refine bN (fun gc0 => ?_) (fun g => by rw [key, gA, gC, gT, g]; simp)
    refine bN (fun gc1 => ?_) (fun g => by rw [key, gA, gC, gT, gc0, g]; simp)
    refine bN (fun gc2 => ?_) (fun g => by rw [key, gA, gC, gT, gc0, gc1, g]; simp)
    refine bN (fun gc3 => ?_) (fun g => by rw [key, gA, gC, gT, gc0, gc1, gc2, g]; simp)
    refine bO (by rw [hA, q0]; rfl) ?_
    refine bN (fun gs0 => ?_) (fun g => by rw [key, gA, gC, gT, gc0, gc1, gc2, gc3, g]; simp)
    refine bO (by rw [hA, q1]; rfl) ?_
    refine bN (fun gs1 => ?_) (fun g => by rw [key, gA, gC, gT, gc0, gc1, gc2, gc3, gs0, g]; simp)
    refine bP (fun gi1 => ?_) (fun g => by rw [key, gA, gC, gT, gc0, gc1, gc2, gc3, gs0, gs1, g]; simp)
    refine bO (by rw [hA, q2]; rfl) ?_
    refine bN (fun gs2 => ?_) (fun g => by rw [key, gA, gC, gT, gc0, gc1, gc2, gc3, gs0, gs1, gi1, g]; simp)
    refine bP (fun gi2 => ?_) (fun g => by rw [key, gA, gC, gT, gc0, gc1, gc2, gc3, gs0, gs1, gi1, gs2, g]; simp)
    exact bT rfl (fun g => by rw [key, gA, gC, gT, gc0, gc1, gc2, gc3, gs0, gs1, gi1, gs2, gi2, g]; rfl) (fun g => by rw [key, gA, gC, gT, gc0, gc1, gc2, gc3, gs0, gs1, gi1, gs2, gi2, g]; rfl)
  · 
    have q0 : okSes s0 = true := hq s0 (by simp)
    have q1 : okSes s1 = true := hq s1 (by simp)
    have q2 : okSes s2 = true := hq s2 (by simp)
    have q3 : okSes s3 = true := hq s3 (by simp)
    have key : mmay (h.on t) [s0, s1, s2, s3] = (amay (toZ h.w0) (toZ h.w1) (toZ h.w2) (toZ h.w3) && (clk h.ce && (!decide (((mZ t).length : Int) > 512) && (upto h.c0 0 h.ce && (upto h.c1 0 h.ce && (upto h.c2 0 h.ce && (upto h.c3 0 h.ce && (sesMay h.w0 h.w1 h.w2 h.w3 s0 && (sesMay h.w0 h.w1 h.w2 h.w3 s1 && (!decide (s1.id ≤ s0.id) && (sesMay h.w0 h.w1 h.w2 h.w3 s2 && (!decide (s2.id ≤ s1.id) && (sesMay h.w0 h.w1 h.w2 h.w3 s3 && (!decide (s3.id ≤ s2.id) && !t.any noEv)))))))))))))) := by
      show (amay (toZ h.w0) (toZ h.w1) (toZ h.w2) (toZ h.w3) && ((ck4 h.c0 h.c1 h.c2 h.c3 && clk h.ce) && (!decide (mx4 h.c0 h.c1 h.c2 h.c3 > h.ce) && (!decide ((([s0, s1, s2, s3] : List SesD).length : Int) > 4) && (!decide (((mZ t).length : Int) > 512) && (idsUp [s0, s1, s2, s3] && (([s0, s1, s2, s3] : List SesD).all (sesMay h.w0 h.w1 h.w2 h.w3) && !(toZ (mZ t)).any noEv))))))) = _
      rw [toZ_mZ, ← Bool.and_assoc (ck4 h.c0 h.c1 h.c2 h.c3 && clk h.ce), ck_up]
      simp only [idsUp, List.all_cons, List.all_nil, Bool.and_true, Bool.true_and, idsNot, (by simp : (!decide ((([s0, s1, s2, s3] : List SesD).length : Int) > 4)) = true)]
      try ac_rfl
    refine ct_sL (m := [(14, fTr h [s0, s1, s2, s3] t)]) (.cons oRAMay (.cons oRClk (.cons oUp2 (.cons oRSes .nil)))) mixed (loopsTr hw hl) Tryz.func27 rfl rfl rfl ?_
    rw [eRM_4]
    refine ⟨?_⟩
    refine bO hA ?_
    refine bN (fun gA => ?_) (fun g => by rw [key, g]; rfl)
    refine bN (fun gC => ?_) (fun g => by rw [key, gA, g]; rfl)
    refine bP (fun gT => ?_) (fun g => by rw [key, gA, gC, g]; rfl)
    refine bN (fun gc0 => ?_) (fun g => by rw [key, gA, gC, gT, g]; simp)
    refine bN (fun gc1 => ?_) (fun g => by rw [key, gA, gC, gT, gc0, g]; simp)
    refine bN (fun gc2 => ?_) (fun g => by rw [key, gA, gC, gT, gc0, gc1, g]; simp)
    refine bN (fun gc3 => ?_) (fun g => by rw [key, gA, gC, gT, gc0, gc1, gc2, g]; simp)
    refine bO (by rw [hA, q0]; rfl) ?_
    refine bN (fun gs0 => ?_) (fun g => by rw [key, gA, gC, gT, gc0, gc1, gc2, gc3, g]; simp)
    refine bO (by rw [hA, q1]; rfl) ?_
    refine bN (fun gs1 => ?_) (fun g => by rw [key, gA, gC, gT, gc0, gc1, gc2, gc3, gs0, g]; simp)
    refine bP (fun gi1 => ?_) (fun g => by rw [key, gA, gC, gT, gc0, gc1, gc2, gc3, gs0, gs1, g]; simp)
    refine bO (by rw [hA, q2]; rfl) ?_
    refine bN (fun gs2 => ?_) (fun g => by rw [key, gA, gC, gT, gc0, gc1, gc2, gc3, gs0, gs1, gi1, g]; simp)
    refine bP (fun gi2 => ?_) (fun g => by rw [key, gA, gC, gT, gc0, gc1, gc2, gc3, gs0, gs1, gi1, gs2, g]; simp)
    refine bO (by rw [hA, q3]; rfl) ?_
    refine bN (fun gs3 => ?_) (fun g => by rw [key, gA, gC, gT, gc0, gc1, gc2, gc3, gs0, gs1, gi1, gs2, gi2, g]; simp)
    refine bP (fun gi3 => ?_) (fun g => by rw [key, gA, gC, gT, gc0, gc1, gc2, gc3, gs0, gs1, gi1, gs2, gi2, gs3, g]; simp)
    exact bT rfl (fun g => by rw [key, gA, gC, gT, gc0, gc1, gc2, gc3, gs0, gs1, gi1, gs2, gi2, gs3, gi3, g]; rfl) (fun g => by rw [key, gA, gC, gT, gc0, gc1, gc2, gc3, gs0, gs1, gi1, gs2, gi2, gs3, gi3, g]; rfl)
  · refine ct_sL (l := [(68, sAMay), (69, sB clk), (56, sUp)]) (m := [(4, fun _ _ => False)]) (.cons oRAMay (.cons oRClk (.cons oUp2 .nil))) mixed loops_no Tryz.func27 rfl rfl rfl ?_
    rw [eRM_B]
    refine ⟨?_⟩
    have h6 : mmay (h.on t) (s0 :: s1 :: s2 :: s3 :: s4 :: l) = false := by
      unfold mmay
      rw [(by simp; omega : (!decide (((s0 :: s1 :: s2 :: s3 :: s4 :: l).length : Int) > 4)) = false)]
      simp
    rw [h6]
    refine bO hA (bN (fun _ => bN (fun _ => bP (fun g => ?_) fun _ => rfl) fun _ => rfl) fun _ => rfl)
    simp at g
    omega
theorem cRM (h : Mh) (ss : List SesD) (hok : okM h ss = true) : CT Tryz.prog 27 [.agg (macL 0 h ss)] (B (mmay h ss)) := by
  obtain ⟨h1, h2, h3⟩ := okM_spec hok
  obtain ⟨e, hw, hl⟩ := okZ_spec h2
  have := cRMt h ss (toZ h.tr) h1 hw (by rw [toZ_len]; exact hl) h3
  have eh : h.on (toZ h.tr) = h := by unfold Mh.on; rw [← e]
  rwa [eh] at this
def sRMm : Spec := fun ds Q => match ds with
  | [d] => macA d fun h ss => cond (okM h ss) (Q (B (mmay h ss))) False
  | _ => False
theorem oRMm : SpecOK Tryz.prog 27 sRMm := o_al Tryz.func27 (by kernel_rfl) rfl fun ds Q h => by
  unfold sRMm at h; split at h
  · obtain ⟨m, ss, h, r⟩ := macA_spec h
    obtain ⟨h1, h2⟩ := cond_P h
    exact ⟨_, _, .cons r .nil, cRM m ss h1, rfl, rfl, h2⟩
  · exact h.elim
end

section
set_option maxHeartbeats 2000000
open Go Go.Proofs
set_option linter.unusedSimpArgs false
set_option linter.unusedVariables false
set_option maxRecDepth 100000
theorem smR_f4 {R : List (List D)} (h : smR 4398046510977 R = true) : allV R = true ∧ decide (R.length * 32 ≤ 140737488355328) = true ∧ decide (R.length ≤ 9223372036854775807) = true ∧ (R.all fun r => r.all D.keeps) = true := by
  obtain ⟨a, b, c⟩ := smR_spec h
  exact ⟨a, decide_eq_true (by omega), decide_eq_true (by omega), c⟩
theorem smR_f3 {R : List (List D)} (h : smR 5864062014635 R = true) : allV R = true ∧ decide (R.length * 24 ≤ 140737488355328) = true ∧ decide (R.length ≤ 9223372036854775807) = true ∧ (R.all fun r => r.all D.keeps) = true := by
  obtain ⟨a, b, c⟩ := smR_spec h
  exact ⟨a, decide_eq_true (by omega), decide_eq_true (by omega), c⟩
theorem eRSeC (s : SesD) (K : DV → Prop) : (ask Tryz.prog [] Tryz.f98 [.agg (sesL 0 s)] K) = (bif allV s.pg then bif true && (decide ((0 + List.length s.pg) * 32 ≤ 140737488355328) && decide (0 + List.length s.pg ≤ 9223372036854775807)) then bif allV s.rd then bif true && (decide ((0 + List.length s.rd) * 24 ≤ 140737488355328) && decide (0 + List.length s.rd ≤ 9223372036854775807)) then bif allV s.wt then bif true && (decide ((0 + List.length s.wt) * 24 ≤ 140737488355328) && decide (0 + List.length s.wt ≤ 9223372036854775807)) then bif decide (0 + List.length s.pg ≤ List.length ([] ++ s.pg)) && List.all ([] ++ s.pg) fun r => List.all r D.keeps then bif decide (0 + List.length s.rd ≤ List.length ([] ++ s.rd)) && List.all ([] ++ s.rd) fun r => List.all r D.keeps then bif decide (0 + List.length s.wt ≤ List.length ([] ++ s.wt)) && List.all ([] ++ s.wt) fun r => List.all r D.keeps then K (DV.agg [D.v (Value.int IntKind.i64 s.id), D.v (Value.int IntKind.i64 s.lb), D.v (Value.int IntKind.i64 s.cl), D.s (1) (4) (List.take (0 + List.length s.pg) ([] ++ s.pg)) (List.take (0 + List.length s.pg - (0 + List.length s.pg)) (List.drop (0 + List.length s.pg) ([] ++ s.pg))), D.v (Value.int IntKind.i64 s.st), D.v (Value.int IntKind.i64 s.pc), D.v (Value.int IntKind.i64 s.r0), D.v (Value.int IntKind.i64 s.r1), D.v (Value.int IntKind.i64 s.r2), D.v (Value.int IntKind.i64 s.r3), D.s (1) (3) (List.take (0 + List.length s.rd) ([] ++ s.rd)) (List.take (0 + List.length s.rd - (0 + List.length s.rd)) (List.drop (0 + List.length s.rd) ([] ++ s.rd))), D.s (1) (3) (List.take (0 + List.length s.wt) ([] ++ s.wt)) (List.take (0 + List.length s.wt - (0 + List.length s.wt)) (List.drop (0 + List.length s.wt) ([] ++ s.wt))), D.v (Value.int IntKind.i64 s.at'), D.v (Value.int IntKind.i64 s.sp), D.v (Value.int IntKind.i64 s.tr), D.v (Value.int IntKind.i64 s.rs), D.v (Value.int IntKind.i64 s.to)]) else False else False else False else False else False else False else False else False else False) := by kernel_rfl
theorem cRSeC (s : SesD) (hs : smS s = true) : CT Tryz.prog 98 [.agg (sesL 0 s)] (.agg (sesL 1 s)) := by
  obtain ⟨h1, h2, h3⟩ := smS_spec hs
  obtain ⟨a1, a2, a3, a4⟩ := smR_f4 h1
  obtain ⟨b1, b2, b3, b4⟩ := smR_f3 h2
  obtain ⟨c1, c2, c3, c4⟩ := smR_f3 h3
  refine ct_s .nil mixed Tryz.func98 rfl rfl rfl ?_
  rw [eRSeC]
  refine ⟨?_⟩
  simp only [a1, a2, a3, a4, b1, b2, b3, b4, c1, c2, c3, c4, Nat.zero_add, List.nil_append, List.append_nil, Nat.le_refl, decide_true, Bool.and_self, Bool.true_and, cond_true, takeAll, Nat.add_zero, Nat.sub_self, List.take_zero]
  rfl
theorem oRSeC : SpecOK Tryz.prog 98 sSesC := o_al Tryz.func98 (by kernel_rfl) rfl fun ds Q h => by
  unfold sSesC at h; split at h
  · obtain ⟨s, h, r⟩ := sesA_spec h
    obtain ⟨h1, h2⟩ := cond_P h
    exact ⟨_, _, .cons r .nil, cRSeC s h1, ownL_ses h1, rfl, h2⟩
  · exact h.elim
theorem eRCop0 (h : Mh) (K : DV → Prop) : (askH Tryz.prog (hkM [(97, sACopy), (98, sSesC)] [] []) Tryz.f58 [.agg (macL 0 h [])] K) = (bif okC4 h.w0 h.w1 h.w2 h.w3 then bif allV h.tr then bif true && (decide ((0 + List.length h.tr) * 32 ≤ 140737488355328) && decide (0 + List.length h.tr ≤ 9223372036854775807)) then bif decide (List.length h.w0 ≤ List.length (h.w0 ++ [])) && List.all (h.w0 ++ []) fun r => List.all r D.keeps then bif decide (List.length h.w1 ≤ List.length (h.w1 ++ [])) && List.all (h.w1 ++ []) fun r => List.all r D.keeps then bif decide (List.length h.w2 ≤ List.length (h.w2 ++ [])) && List.all (h.w2 ++ []) fun r => List.all r D.keeps then bif decide (List.length h.w3 ≤ List.length (h.w3 ++ [])) && List.all (h.w3 ++ []) fun r => List.all r D.keeps then bif decide (0 + List.length h.tr ≤ List.length ([] ++ h.tr)) && List.all ([] ++ h.tr) fun r => List.all r D.keeps then K (DV.agg [D.s (1) (3) (List.take (List.length h.w0) (h.w0 ++ [])) (List.take (List.length h.w0 + 0 - List.length h.w0) (List.drop (List.length h.w0) (h.w0 ++ []))), D.s (1) (3) (List.take (List.length h.w1) (h.w1 ++ [])) (List.take (List.length h.w1 + 0 - List.length h.w1) (List.drop (List.length h.w1) (h.w1 ++ []))), D.s (1) (3) (List.take (List.length h.w2) (h.w2 ++ [])) (List.take (List.length h.w2 + 0 - List.length h.w2) (List.drop (List.length h.w2) (h.w2 ++ []))), D.s (1) (3) (List.take (List.length h.w3) (h.w3 ++ [])) (List.take (List.length h.w3 + 0 - List.length h.w3) (List.drop (List.length h.w3) (h.w3 ++ []))), D.v (Value.int IntKind.i64 h.c0), D.v (Value.int IntKind.i64 h.c1), D.v (Value.int IntKind.i64 h.c2), D.v (Value.int IntKind.i64 h.c3), D.v (Value.int IntKind.i64 h.ce), D.v (Value.slice none (0) (0)), D.s (1) (4) (List.take (0 + List.length h.tr) ([] ++ h.tr)) (List.take (0 + List.length h.tr - (0 + List.length h.tr)) (List.drop (0 + List.length h.tr) ([] ++ h.tr)))]) else False else False else False else False else False else False else False else False) := by kernel_rfl
theorem eRCop1 (h : Mh) (s0 : SesD) (K : DV → Prop) : (askH Tryz.prog (hkM [(97, sACopy), (98, sSesC)] [] []) Tryz.f58 [.agg (macL 0 h [s0])] K) = (bif okC4 h.w0 h.w1 h.w2 h.w3 then bif smS s0 then bif allV h.tr then bif true && (decide ((0 + List.length h.tr) * 32 ≤ 140737488355328) && decide (0 + List.length h.tr ≤ 9223372036854775807)) then bif decide (List.length h.w0 ≤ List.length (h.w0 ++ [])) && List.all (h.w0 ++ []) fun r => List.all r D.keeps then bif decide (List.length h.w1 ≤ List.length (h.w1 ++ [])) && List.all (h.w1 ++ []) fun r => List.all r D.keeps then bif decide (List.length h.w2 ≤ List.length (h.w2 ++ [])) && List.all (h.w2 ++ []) fun r => List.all r D.keeps then bif decide (List.length h.w3 ≤ List.length (h.w3 ++ [])) && List.all (h.w3 ++ []) fun r => List.all r D.keeps then bif decide (List.length s0.pg ≤ List.length (s0.pg ++ [])) && List.all (s0.pg ++ []) fun r => List.all r D.keeps then bif decide (List.length s0.rd ≤ List.length (s0.rd ++ [])) && List.all (s0.rd ++ []) fun r => List.all r D.keeps then bif decide (List.length s0.wt ≤ List.length (s0.wt ++ [])) && List.all (s0.wt ++ []) fun r => List.all r D.keeps then bif decide (0 + List.length h.tr ≤ List.length ([] ++ h.tr)) && List.all ([] ++ h.tr) fun r => List.all r D.keeps then K (DV.agg [D.s (1) (3) (List.take (List.length h.w0) (h.w0 ++ [])) (List.take (List.length h.w0 + 0 - List.length h.w0) (List.drop (List.length h.w0) (h.w0 ++ []))), D.s (1) (3) (List.take (List.length h.w1) (h.w1 ++ [])) (List.take (List.length h.w1 + 0 - List.length h.w1) (List.drop (List.length h.w1) (h.w1 ++ []))), D.s (1) (3) (List.take (List.length h.w2) (h.w2 ++ [])) (List.take (List.length h.w2 + 0 - List.length h.w2) (List.drop (List.length h.w2) (h.w2 ++ []))), D.s (1) (3) (List.take (List.length h.w3) (h.w3 ++ [])) (List.take (List.length h.w3 + 0 - List.length h.w3) (List.drop (List.length h.w3) (h.w3 ++ []))), D.v (Value.int IntKind.i64 h.c0), D.v (Value.int IntKind.i64 h.c1), D.v (Value.int IntKind.i64 h.c2), D.v (Value.int IntKind.i64 h.c3), D.v (Value.int IntKind.i64 h.ce), D.s (1) (17) [[D.v (Value.int IntKind.i64 s0.id), D.v (Value.int IntKind.i64 s0.lb), D.v (Value.int IntKind.i64 s0.cl), D.s (1) (4) (List.take (List.length s0.pg) (s0.pg ++ [])) (List.take (List.length s0.pg + 0 - List.length s0.pg) (List.drop (List.length s0.pg) (s0.pg ++ []))), D.v (Value.int IntKind.i64 s0.st), D.v (Value.int IntKind.i64 s0.pc), D.v (Value.int IntKind.i64 s0.r0), D.v (Value.int IntKind.i64 s0.r1), D.v (Value.int IntKind.i64 s0.r2), D.v (Value.int IntKind.i64 s0.r3), D.s (1) (3) (List.take (List.length s0.rd) (s0.rd ++ [])) (List.take (List.length s0.rd + 0 - List.length s0.rd) (List.drop (List.length s0.rd) (s0.rd ++ []))), D.s (1) (3) (List.take (List.length s0.wt) (s0.wt ++ [])) (List.take (List.length s0.wt + 0 - List.length s0.wt) (List.drop (List.length s0.wt) (s0.wt ++ []))), D.v (Value.int IntKind.i64 s0.at'), D.v (Value.int IntKind.i64 s0.sp), D.v (Value.int IntKind.i64 s0.tr), D.v (Value.int IntKind.i64 s0.rs), D.v (Value.int IntKind.i64 s0.to)]] [], D.s (1) (4) (List.take (0 + List.length h.tr) ([] ++ h.tr)) (List.take (0 + List.length h.tr - (0 + List.length h.tr)) (List.drop (0 + List.length h.tr) ([] ++ h.tr)))]) else False else False else False else False else False else False else False else False else False else False else False else False) := by kernel_rfl
theorem eRCop2 (h : Mh) (s0 s1 : SesD) (K : DV → Prop) : (askH Tryz.prog (hkM [(97, sACopy), (98, sSesC)] [] []) Tryz.f58 [.agg (macL 0 h [s0, s1])] K) = (bif okC4 h.w0 h.w1 h.w2 h.w3 then bif smS s0 then bif smS s1 then bif allV h.tr then bif true && (decide ((0 + List.length h.tr) * 32 ≤ 140737488355328) && decide (0 + List.length h.tr ≤ 9223372036854775807)) then bif decide (List.length h.w0 ≤ List.length (h.w0 ++ [])) && List.all (h.w0 ++ []) fun r => List.all r D.keeps then bif decide (List.length h.w1 ≤ List.length (h.w1 ++ [])) && List.all (h.w1 ++ []) fun r => List.all r D.keeps then bif decide (List.length h.w2 ≤ List.length (h.w2 ++ [])) && List.all (h.w2 ++ []) fun r => List.all r D.keeps then bif decide (List.length h.w3 ≤ List.length (h.w3 ++ [])) && List.all (h.w3 ++ []) fun r => List.all r D.keeps then bif decide (List.length s0.pg ≤ List.length (s0.pg ++ [])) && List.all (s0.pg ++ []) fun r => List.all r D.keeps then bif decide (List.length s0.rd ≤ List.length (s0.rd ++ [])) && List.all (s0.rd ++ []) fun r => List.all r D.keeps then bif decide (List.length s0.wt ≤ List.length (s0.wt ++ [])) && List.all (s0.wt ++ []) fun r => List.all r D.keeps then bif decide (List.length s1.pg ≤ List.length (s1.pg ++ [])) && List.all (s1.pg ++ []) fun r => List.all r D.keeps then bif decide (List.length s1.rd ≤ List.length (s1.rd ++ [])) && List.all (s1.rd ++ []) fun r => List.all r D.keeps then bif decide (List.length s1.wt ≤ List.length (s1.wt ++ [])) && List.all (s1.wt ++ []) fun r => List.all r D.keeps then bif decide (0 + List.length h.tr ≤ List.length ([] ++ h.tr)) && List.all ([] ++ h.tr) fun r => List.all r D.keeps then K (DV.agg [D.s (1) (3) (List.take (List.length h.w0) (h.w0 ++ [])) (List.take (List.length h.w0 + 0 - List.length h.w0) (List.drop (List.length h.w0) (h.w0 ++ []))), D.s (1) (3) (List.take (List.length h.w1) (h.w1 ++ [])) (List.take (List.length h.w1 + 0 - List.length h.w1) (List.drop (List.length h.w1) (h.w1 ++ []))), D.s (1) (3) (List.take (List.length h.w2) (h.w2 ++ [])) (List.take (List.length h.w2 + 0 - List.length h.w2) (List.drop (List.length h.w2) (h.w2 ++ []))), D.s (1) (3) (List.take (List.length h.w3) (h.w3 ++ [])) (List.take (List.length h.w3 + 0 - List.length h.w3) (List.drop (List.length h.w3) (h.w3 ++ []))), D.v (Value.int IntKind.i64 h.c0), D.v (Value.int IntKind.i64 h.c1), D.v (Value.int IntKind.i64 h.c2), D.v (Value.int IntKind.i64 h.c3), D.v (Value.int IntKind.i64 h.ce), D.s (1) (17) [[D.v (Value.int IntKind.i64 s0.id), D.v (Value.int IntKind.i64 s0.lb), D.v (Value.int IntKind.i64 s0.cl), D.s (1) (4) (List.take (List.length s0.pg) (s0.pg ++ [])) (List.take (List.length s0.pg + 0 - List.length s0.pg) (List.drop (List.length s0.pg) (s0.pg ++ []))), D.v (Value.int IntKind.i64 s0.st), D.v (Value.int IntKind.i64 s0.pc), D.v (Value.int IntKind.i64 s0.r0), D.v (Value.int IntKind.i64 s0.r1), D.v (Value.int IntKind.i64 s0.r2), D.v (Value.int IntKind.i64 s0.r3), D.s (1) (3) (List.take (List.length s0.rd) (s0.rd ++ [])) (List.take (List.length s0.rd + 0 - List.length s0.rd) (List.drop (List.length s0.rd) (s0.rd ++ []))), D.s (1) (3) (List.take (List.length s0.wt) (s0.wt ++ [])) (List.take (List.length s0.wt + 0 - List.length s0.wt) (List.drop (List.length s0.wt) (s0.wt ++ []))), D.v (Value.int IntKind.i64 s0.at'), D.v (Value.int IntKind.i64 s0.sp), D.v (Value.int IntKind.i64 s0.tr), D.v (Value.int IntKind.i64 s0.rs), D.v (Value.int IntKind.i64 s0.to)], [D.v (Value.int IntKind.i64 s1.id), D.v (Value.int IntKind.i64 s1.lb), D.v (Value.int IntKind.i64 s1.cl), D.s (1) (4) (List.take (List.length s1.pg) (s1.pg ++ [])) (List.take (List.length s1.pg + 0 - List.length s1.pg) (List.drop (List.length s1.pg) (s1.pg ++ []))), D.v (Value.int IntKind.i64 s1.st), D.v (Value.int IntKind.i64 s1.pc), D.v (Value.int IntKind.i64 s1.r0), D.v (Value.int IntKind.i64 s1.r1), D.v (Value.int IntKind.i64 s1.r2), D.v (Value.int IntKind.i64 s1.r3), D.s (1) (3) (List.take (List.length s1.rd) (s1.rd ++ [])) (List.take (List.length s1.rd + 0 - List.length s1.rd) (List.drop (List.length s1.rd) (s1.rd ++ []))), D.s (1) (3) (List.take (List.length s1.wt) (s1.wt ++ [])) (List.take (List.length s1.wt + 0 - List.length s1.wt) (List.drop (List.length s1.wt) (s1.wt ++ []))), D.v (Value.int IntKind.i64 s1.at'), D.v (Value.int IntKind.i64 s1.sp), D.v (Value.int IntKind.i64 s1.tr), D.v (Value.int IntKind.i64 s1.rs), D.v (Value.int IntKind.i64 s1.to)]] [], D.s (1) (4) (List.take (0 + List.length h.tr) ([] ++ h.tr)) (List.take (0 + List.length h.tr - (0 + List.length h.tr)) (List.drop (0 + List.length h.tr) ([] ++ h.tr)))]) else False else False else False else False else False else False else False else False else False else False else False else False else False else False else False else False) := by kernel_rfl
theorem eRCop3 (h : Mh) (s0 s1 s2 : SesD) (K : DV → Prop) : (askH Tryz.prog (hkM [(97, sACopy), (98, sSesC)] [] []) Tryz.f58 [.agg (macL 0 h [s0, s1, s2])] K) = (bif okC4 h.w0 h.w1 h.w2 h.w3 then bif smS s0 then bif smS s1 then bif smS s2 then bif allV h.tr then bif true && (decide ((0 + List.length h.tr) * 32 ≤ 140737488355328) && decide (0 + List.length h.tr ≤ 9223372036854775807)) then bif decide (List.length h.w0 ≤ List.length (h.w0 ++ [])) && List.all (h.w0 ++ []) fun r => List.all r D.keeps then bif decide (List.length h.w1 ≤ List.length (h.w1 ++ [])) && List.all (h.w1 ++ []) fun r => List.all r D.keeps then bif decide (List.length h.w2 ≤ List.length (h.w2 ++ [])) && List.all (h.w2 ++ []) fun r => List.all r D.keeps then bif decide (List.length h.w3 ≤ List.length (h.w3 ++ [])) && List.all (h.w3 ++ []) fun r => List.all r D.keeps then bif decide (List.length s0.pg ≤ List.length (s0.pg ++ [])) && List.all (s0.pg ++ []) fun r => List.all r D.keeps then bif decide (List.length s0.rd ≤ List.length (s0.rd ++ [])) && List.all (s0.rd ++ []) fun r => List.all r D.keeps then bif decide (List.length s0.wt ≤ List.length (s0.wt ++ [])) && List.all (s0.wt ++ []) fun r => List.all r D.keeps then bif decide (List.length s1.pg ≤ List.length (s1.pg ++ [])) && List.all (s1.pg ++ []) fun r => List.all r D.keeps then bif decide (List.length s1.rd ≤ List.length (s1.rd ++ [])) && List.all (s1.rd ++ []) fun r => List.all r D.keeps then bif decide (List.length s1.wt ≤ List.length (s1.wt ++ [])) && List.all (s1.wt ++ []) fun r => List.all r D.keeps then bif decide (List.length s2.pg ≤ List.length (s2.pg ++ [])) && List.all (s2.pg ++ []) fun r => List.all r D.keeps then bif decide (List.length s2.rd ≤ List.length (s2.rd ++ [])) && List.all (s2.rd ++ []) fun r => List.all r D.keeps then bif decide (List.length s2.wt ≤ List.length (s2.wt ++ [])) && List.all (s2.wt ++ []) fun r => List.all r D.keeps then bif decide (0 + List.length h.tr ≤ List.length ([] ++ h.tr)) && List.all ([] ++ h.tr) fun r => List.all r D.keeps then K (DV.agg [D.s (1) (3) (List.take (List.length h.w0) (h.w0 ++ [])) (List.take (List.length h.w0 + 0 - List.length h.w0) (List.drop (List.length h.w0) (h.w0 ++ []))), D.s (1) (3) (List.take (List.length h.w1) (h.w1 ++ [])) (List.take (List.length h.w1 + 0 - List.length h.w1) (List.drop (List.length h.w1) (h.w1 ++ []))), D.s (1) (3) (List.take (List.length h.w2) (h.w2 ++ [])) (List.take (List.length h.w2 + 0 - List.length h.w2) (List.drop (List.length h.w2) (h.w2 ++ []))), D.s (1) (3) (List.take (List.length h.w3) (h.w3 ++ [])) (List.take (List.length h.w3 + 0 - List.length h.w3) (List.drop (List.length h.w3) (h.w3 ++ []))), D.v (Value.int IntKind.i64 h.c0), D.v (Value.int IntKind.i64 h.c1), D.v (Value.int IntKind.i64 h.c2), D.v (Value.int IntKind.i64 h.c3), D.v (Value.int IntKind.i64 h.ce), D.s (1) (17) [[D.v (Value.int IntKind.i64 s0.id), D.v (Value.int IntKind.i64 s0.lb), D.v (Value.int IntKind.i64 s0.cl), D.s (1) (4) (List.take (List.length s0.pg) (s0.pg ++ [])) (List.take (List.length s0.pg + 0 - List.length s0.pg) (List.drop (List.length s0.pg) (s0.pg ++ []))), D.v (Value.int IntKind.i64 s0.st), D.v (Value.int IntKind.i64 s0.pc), D.v (Value.int IntKind.i64 s0.r0), D.v (Value.int IntKind.i64 s0.r1), D.v (Value.int IntKind.i64 s0.r2), D.v (Value.int IntKind.i64 s0.r3), D.s (1) (3) (List.take (List.length s0.rd) (s0.rd ++ [])) (List.take (List.length s0.rd + 0 - List.length s0.rd) (List.drop (List.length s0.rd) (s0.rd ++ []))), D.s (1) (3) (List.take (List.length s0.wt) (s0.wt ++ [])) (List.take (List.length s0.wt + 0 - List.length s0.wt) (List.drop (List.length s0.wt) (s0.wt ++ []))), D.v (Value.int IntKind.i64 s0.at'), D.v (Value.int IntKind.i64 s0.sp), D.v (Value.int IntKind.i64 s0.tr), D.v (Value.int IntKind.i64 s0.rs), D.v (Value.int IntKind.i64 s0.to)], [D.v (Value.int IntKind.i64 s1.id), D.v (Value.int IntKind.i64 s1.lb), D.v (Value.int IntKind.i64 s1.cl), D.s (1) (4) (List.take (List.length s1.pg) (s1.pg ++ [])) (List.take (List.length s1.pg + 0 - List.length s1.pg) (List.drop (List.length s1.pg) (s1.pg ++ []))), D.v (Value.int IntKind.i64 s1.st), D.v (Value.int IntKind.i64 s1.pc), D.v (Value.int IntKind.i64 s1.r0), D.v (Value.int IntKind.i64 s1.r1), D.v (Value.int IntKind.i64 s1.r2), D.v (Value.int IntKind.i64 s1.r3), D.s (1) (3) (List.take (List.length s1.rd) (s1.rd ++ [])) (List.take (List.length s1.rd + 0 - List.length s1.rd) (List.drop (List.length s1.rd) (s1.rd ++ []))), D.s (1) (3) (List.take (List.length s1.wt) (s1.wt ++ [])) (List.take (List.length s1.wt + 0 - List.length s1.wt) (List.drop (List.length s1.wt) (s1.wt ++ []))), D.v (Value.int IntKind.i64 s1.at'), D.v (Value.int IntKind.i64 s1.sp), D.v (Value.int IntKind.i64 s1.tr), D.v (Value.int IntKind.i64 s1.rs), D.v (Value.int IntKind.i64 s1.to)], [D.v (Value.int IntKind.i64 s2.id), D.v (Value.int IntKind.i64 s2.lb), D.v (Value.int IntKind.i64 s2.cl), D.s (1) (4) (List.take (List.length s2.pg) (s2.pg ++ [])) (List.take (List.length s2.pg + 0 - List.length s2.pg) (List.drop (List.length s2.pg) (s2.pg ++ []))), D.v (Value.int IntKind.i64 s2.st), D.v (Value.int IntKind.i64 s2.pc), D.v (Value.int IntKind.i64 s2.r0), D.v (Value.int IntKind.i64 s2.r1), D.v (Value.int IntKind.i64 s2.r2), D.v (Value.int IntKind.i64 s2.r3), D.s (1) (3) (List.take (List.length s2.rd) (s2.rd ++ [])) (List.take (List.length s2.rd + 0 - List.length s2.rd) (List.drop (List.length s2.rd) (s2.rd ++ []))), D.s (1) (3) (List.take (List.length s2.wt) (s2.wt ++ [])) (List.take (List.length s2.wt + 0 - List.length s2.wt) (List.drop (List.length s2.wt) (s2.wt ++ []))), D.v (Value.int IntKind.i64 s2.at'), D.v (Value.int IntKind.i64 s2.sp), D.v (Value.int IntKind.i64 s2.tr), D.v (Value.int IntKind.i64 s2.rs), D.v (Value.int IntKind.i64 s2.to)]] [], D.s (1) (4) (List.take (0 + List.length h.tr) ([] ++ h.tr)) (List.take (0 + List.length h.tr - (0 + List.length h.tr)) (List.drop (0 + List.length h.tr) ([] ++ h.tr)))]) else False else False else False else False else False else False else False else False else False else False else False else False else False else False else False else False else False else False else False else False) := by kernel_rfl
theorem eRCop4 (h : Mh) (s0 s1 s2 s3 : SesD) (K : DV → Prop) : (askH Tryz.prog (hkM [(97, sACopy), (98, sSesC)] [] []) Tryz.f58 [.agg (macL 0 h [s0, s1, s2, s3])] K) = (bif okC4 h.w0 h.w1 h.w2 h.w3 then bif smS s0 then bif smS s1 then bif smS s2 then bif smS s3 then bif allV h.tr then bif true && (decide ((0 + List.length h.tr) * 32 ≤ 140737488355328) && decide (0 + List.length h.tr ≤ 9223372036854775807)) then bif decide (List.length h.w0 ≤ List.length (h.w0 ++ [])) && List.all (h.w0 ++ []) fun r => List.all r D.keeps then bif decide (List.length h.w1 ≤ List.length (h.w1 ++ [])) && List.all (h.w1 ++ []) fun r => List.all r D.keeps then bif decide (List.length h.w2 ≤ List.length (h.w2 ++ [])) && List.all (h.w2 ++ []) fun r => List.all r D.keeps then bif decide (List.length h.w3 ≤ List.length (h.w3 ++ [])) && List.all (h.w3 ++ []) fun r => List.all r D.keeps then bif decide (List.length s0.pg ≤ List.length (s0.pg ++ [])) && List.all (s0.pg ++ []) fun r => List.all r D.keeps then bif decide (List.length s0.rd ≤ List.length (s0.rd ++ [])) && List.all (s0.rd ++ []) fun r => List.all r D.keeps then bif decide (List.length s0.wt ≤ List.length (s0.wt ++ [])) && List.all (s0.wt ++ []) fun r => List.all r D.keeps then bif decide (List.length s1.pg ≤ List.length (s1.pg ++ [])) && List.all (s1.pg ++ []) fun r => List.all r D.keeps then bif decide (List.length s1.rd ≤ List.length (s1.rd ++ [])) && List.all (s1.rd ++ []) fun r => List.all r D.keeps then bif decide (List.length s1.wt ≤ List.length (s1.wt ++ [])) && List.all (s1.wt ++ []) fun r => List.all r D.keeps then bif decide (List.length s2.pg ≤ List.length (s2.pg ++ [])) && List.all (s2.pg ++ []) fun r => List.all r D.keeps then bif decide (List.length s2.rd ≤ List.length (s2.rd ++ [])) && List.all (s2.rd ++ []) fun r => List.all r D.keeps then bif decide (List.length s2.wt ≤ List.length (s2.wt ++ [])) && List.all (s2.wt ++ []) fun r => List.all r D.keeps then bif decide (List.length s3.pg ≤ List.length (s3.pg ++ [])) && List.all (s3.pg ++ []) fun r => List.all r D.keeps then bif decide (List.length s3.rd ≤ List.length (s3.rd ++ [])) && List.all (s3.rd ++ []) fun r => List.all r D.keeps then bif decide (List.length s3.wt ≤ List.length (s3.wt ++ [])) && List.all (s3.wt ++ []) fun r => List.all r D.keeps then bif decide (0 + List.length h.tr ≤ List.length ([] ++ h.tr)) && List.all ([] ++ h.tr) fun r => List.all r D.keeps then K (DV.agg [D.s (1) (3) (List.take (List.length h.w0) (h.w0 ++ [])) (List.take (List.length h.w0 + 0 - List.length h.w0) (List.drop (List.length h.w0) (h.w0 ++ []))), D.s (1) (3) (List.take (List.length h.w1) (h.w1 ++ [])) (List.take (List.length h.w1 + 0 - List.length h.w1) (List.drop (List.length h.w1) (h.w1 ++ []))), D.s (1) (3) (List.take (List.length h.w2) (h.w2 ++ [])) (List.take (List.length h.w2 + 0 - List.length h.w2) (List.drop (List.length h.w2) (h.w2 ++ []))), D.s (1) (3) (List.take (List.length h.w3) (h.w3 ++ [])) (List.take (List.length h.w3 + 0 - List.length h.w3) (List.drop (List.length h.w3) (h.w3 ++ []))), D.v (Value.int IntKind.i64 h.c0), D.v (Value.int IntKind.i64 h.c1), D.v (Value.int IntKind.i64 h.c2), D.v (Value.int IntKind.i64 h.c3), D.v (Value.int IntKind.i64 h.ce), D.s (1) (17) [[D.v (Value.int IntKind.i64 s0.id), D.v (Value.int IntKind.i64 s0.lb), D.v (Value.int IntKind.i64 s0.cl), D.s (1) (4) (List.take (List.length s0.pg) (s0.pg ++ [])) (List.take (List.length s0.pg + 0 - List.length s0.pg) (List.drop (List.length s0.pg) (s0.pg ++ []))), D.v (Value.int IntKind.i64 s0.st), D.v (Value.int IntKind.i64 s0.pc), D.v (Value.int IntKind.i64 s0.r0), D.v (Value.int IntKind.i64 s0.r1), D.v (Value.int IntKind.i64 s0.r2), D.v (Value.int IntKind.i64 s0.r3), D.s (1) (3) (List.take (List.length s0.rd) (s0.rd ++ [])) (List.take (List.length s0.rd + 0 - List.length s0.rd) (List.drop (List.length s0.rd) (s0.rd ++ []))), D.s (1) (3) (List.take (List.length s0.wt) (s0.wt ++ [])) (List.take (List.length s0.wt + 0 - List.length s0.wt) (List.drop (List.length s0.wt) (s0.wt ++ []))), D.v (Value.int IntKind.i64 s0.at'), D.v (Value.int IntKind.i64 s0.sp), D.v (Value.int IntKind.i64 s0.tr), D.v (Value.int IntKind.i64 s0.rs), D.v (Value.int IntKind.i64 s0.to)], [D.v (Value.int IntKind.i64 s1.id), D.v (Value.int IntKind.i64 s1.lb), D.v (Value.int IntKind.i64 s1.cl), D.s (1) (4) (List.take (List.length s1.pg) (s1.pg ++ [])) (List.take (List.length s1.pg + 0 - List.length s1.pg) (List.drop (List.length s1.pg) (s1.pg ++ []))), D.v (Value.int IntKind.i64 s1.st), D.v (Value.int IntKind.i64 s1.pc), D.v (Value.int IntKind.i64 s1.r0), D.v (Value.int IntKind.i64 s1.r1), D.v (Value.int IntKind.i64 s1.r2), D.v (Value.int IntKind.i64 s1.r3), D.s (1) (3) (List.take (List.length s1.rd) (s1.rd ++ [])) (List.take (List.length s1.rd + 0 - List.length s1.rd) (List.drop (List.length s1.rd) (s1.rd ++ []))), D.s (1) (3) (List.take (List.length s1.wt) (s1.wt ++ [])) (List.take (List.length s1.wt + 0 - List.length s1.wt) (List.drop (List.length s1.wt) (s1.wt ++ []))), D.v (Value.int IntKind.i64 s1.at'), D.v (Value.int IntKind.i64 s1.sp), D.v (Value.int IntKind.i64 s1.tr), D.v (Value.int IntKind.i64 s1.rs), D.v (Value.int IntKind.i64 s1.to)], [D.v (Value.int IntKind.i64 s2.id), D.v (Value.int IntKind.i64 s2.lb), D.v (Value.int IntKind.i64 s2.cl), D.s (1) (4) (List.take (List.length s2.pg) (s2.pg ++ [])) (List.take (List.length s2.pg + 0 - List.length s2.pg) (List.drop (List.length s2.pg) (s2.pg ++ []))), D.v (Value.int IntKind.i64 s2.st), D.v (Value.int IntKind.i64 s2.pc), D.v (Value.int IntKind.i64 s2.r0), D.v (Value.int IntKind.i64 s2.r1), D.v (Value.int IntKind.i64 s2.r2), D.v (Value.int IntKind.i64 s2.r3), D.s (1) (3) (List.take (List.length s2.rd) (s2.rd ++ [])) (List.take (List.length s2.rd + 0 - List.length s2.rd) (List.drop (List.length s2.rd) (s2.rd ++ []))), D.s (1) (3) (List.take (List.length s2.wt) (s2.wt ++ [])) (List.take (List.length s2.wt + 0 - List.length s2.wt) (List.drop (List.length s2.wt) (s2.wt ++ []))), D.v (Value.int IntKind.i64 s2.at'), D.v (Value.int IntKind.i64 s2.sp), D.v (Value.int IntKind.i64 s2.tr), D.v (Value.int IntKind.i64 s2.rs), D.v (Value.int IntKind.i64 s2.to)], [D.v (Value.int IntKind.i64 s3.id), D.v (Value.int IntKind.i64 s3.lb), D.v (Value.int IntKind.i64 s3.cl), D.s (1) (4) (List.take (List.length s3.pg) (s3.pg ++ [])) (List.take (List.length s3.pg + 0 - List.length s3.pg) (List.drop (List.length s3.pg) (s3.pg ++ []))), D.v (Value.int IntKind.i64 s3.st), D.v (Value.int IntKind.i64 s3.pc), D.v (Value.int IntKind.i64 s3.r0), D.v (Value.int IntKind.i64 s3.r1), D.v (Value.int IntKind.i64 s3.r2), D.v (Value.int IntKind.i64 s3.r3), D.s (1) (3) (List.take (List.length s3.rd) (s3.rd ++ [])) (List.take (List.length s3.rd + 0 - List.length s3.rd) (List.drop (List.length s3.rd) (s3.rd ++ []))), D.s (1) (3) (List.take (List.length s3.wt) (s3.wt ++ [])) (List.take (List.length s3.wt + 0 - List.length s3.wt) (List.drop (List.length s3.wt) (s3.wt ++ []))), D.v (Value.int IntKind.i64 s3.at'), D.v (Value.int IntKind.i64 s3.sp), D.v (Value.int IntKind.i64 s3.tr), D.v (Value.int IntKind.i64 s3.rs), D.v (Value.int IntKind.i64 s3.to)]] [], D.s (1) (4) (List.take (0 + List.length h.tr) ([] ++ h.tr)) (List.take (0 + List.length h.tr - (0 + List.length h.tr)) (List.drop (0 + List.length h.tr) ([] ++ h.tr)))]) else False else False else False else False else False else False else False else False else False else False else False else False else False else False else False else False else False else False else False else False else False else False else False else False) := by kernel_rfl
theorem cRCop (h : Mh) (ss : List SesD) (hl : ss.length ≤ 4) (hm : smM h ss = true) : CT Tryz.prog 58 [.agg (macL 0 h ss)] (.agg (macL 1 h ss)) := by
  have h4 := smM_C4 hm
  obtain ⟨⟨a0, a1, a2, a3⟩, a4, a5⟩ := smM_spec hm
  obtain ⟨_, _, b0⟩ := smR_spec a0
  obtain ⟨_, _, b1⟩ := smR_spec a1
  obtain ⟨_, _, b2⟩ := smR_spec a2
  obtain ⟨_, _, b3⟩ := smR_spec a3
  obtain ⟨t1, t2, t3, t4⟩ := smR_f4 a4
  rcases ss with _ | ⟨s0, _ | ⟨s1, _ | ⟨s2, _ | ⟨s3, _ | ⟨s4, l⟩⟩⟩⟩⟩
  · refine ct_mA (.cons oRCopy (.cons oRSeC .nil)) .nil .nil mixed Tryz.func58 rfl rfl rfl ?_
    rw [eRCop0]
    refine ⟨?_⟩
    simp only [h4, b0, b1, b2, b3, t1, t2, t3, t4, Nat.zero_add, List.nil_append, List.append_nil, Nat.le_refl, decide_true, Bool.and_self, Bool.true_and, cond_true, takeAll, Nat.add_zero, Nat.sub_self, List.take_zero]
    exact .aggO (.cons (.refl _) (.cons (.refl _) (.cons (.refl _) (.cons (.refl _) (.cons (.refl _) (.cons (.refl _) (.cons (.refl _) (.cons (.refl _) (.cons (.refl _) (.cons (.nil 17) (.cons (.refl _) .nil)))))))))))
  · have q0 := a5 s0 (by simp)
    obtain ⟨p0, r0, w0⟩ := smS_spec q0
    obtain ⟨_, _, x0⟩ := smR_spec p0
    obtain ⟨_, _, y0⟩ := smR_spec r0
    obtain ⟨_, _, z0⟩ := smR_spec w0
    refine ct_m (.cons oRCopy (.cons oRSeC .nil)) .nil .nil mixed Tryz.func58 rfl rfl rfl ?_
    rw [eRCop1]
    refine ⟨?_⟩
    simp only [h4, b0, b1, b2, b3, t1, t2, t3, t4, q0, x0, y0, z0, Nat.zero_add, List.nil_append, List.append_nil, Nat.le_refl, decide_true, Bool.and_self, Bool.true_and, cond_true, takeAll, Nat.add_zero, Nat.sub_self, List.take_zero]
    rfl
  · have q0 := a5 s0 (by simp)
    obtain ⟨p0, r0, w0⟩ := smS_spec q0
    obtain ⟨_, _, x0⟩ := smR_spec p0
    obtain ⟨_, _, y0⟩ := smR_spec r0
    obtain ⟨_, _, z0⟩ := smR_spec w0
    have q1 := a5 s1 (by simp)
    obtain ⟨p1, r1, w1⟩ := smS_spec q1
    obtain ⟨_, _, x1⟩ := smR_spec p1
    obtain ⟨_, _, y1⟩ := smR_spec r1
    obtain ⟨_, _, z1⟩ := smR_spec w1
    refine ct_m (.cons oRCopy (.cons oRSeC .nil)) .nil .nil mixed Tryz.func58 rfl rfl rfl ?_
    rw [eRCop2]
    refine ⟨?_⟩
    simp only [h4, b0, b1, b2, b3, t1, t2, t3, t4, q0, x0, y0, z0, q1, x1, y1, z1, Nat.zero_add, List.nil_append, List.append_nil, Nat.le_refl, decide_true, Bool.and_self, Bool.true_and, cond_true, takeAll, Nat.add_zero, Nat.sub_self, List.take_zero]
    rfl
  · have q0 := a5 s0 (by simp)
    obtain ⟨p0, r0, w0⟩ := smS_spec q0
    obtain ⟨_, _, x0⟩ := smR_spec p0
    obtain ⟨_, _, y0⟩ := smR_spec r0
    obtain ⟨_, _, z0⟩ := smR_spec w0
    have q1 := a5 s1 (by simp)
    obtain ⟨p1, r1, w1⟩ := smS_spec q1
    obtain ⟨_, _, x1⟩ := smR_spec p1
    obtain ⟨_, _, y1⟩ := smR_spec r1
    obtain ⟨_, _, z1⟩ := smR_spec w1
    have q2 := a5 s2 (by simp)
    obtain ⟨p2, r2, w2⟩ := smS_spec q2
    obtain ⟨_, _, x2⟩ := smR_spec p2
    obtain ⟨_, _, y2⟩ := smR_spec r2
    obtain ⟨_, _, z2⟩ := smR_spec w2
    refine ct_m (.cons oRCopy (.cons oRSeC .nil)) .nil .nil mixed Tryz.func58 rfl rfl rfl ?_
    rw [eRCop3]
    refine ⟨?_⟩
    simp only [h4, b0, b1, b2, b3, t1, t2, t3, t4, q0, x0, y0, z0, q1, x1, y1, z1, q2, x2, y2, z2, Nat.zero_add, List.nil_append, List.append_nil, Nat.le_refl, decide_true, Bool.and_self, Bool.true_and, cond_true, takeAll, Nat.add_zero, Nat.sub_self, List.take_zero]
    rfl
  · have q0 := a5 s0 (by simp)
    obtain ⟨p0, r0, w0⟩ := smS_spec q0
    obtain ⟨_, _, x0⟩ := smR_spec p0
    obtain ⟨_, _, y0⟩ := smR_spec r0
    obtain ⟨_, _, z0⟩ := smR_spec w0
    have q1 := a5 s1 (by simp)
    obtain ⟨p1, r1, w1⟩ := smS_spec q1
    obtain ⟨_, _, x1⟩ := smR_spec p1
    obtain ⟨_, _, y1⟩ := smR_spec r1
    obtain ⟨_, _, z1⟩ := smR_spec w1
    have q2 := a5 s2 (by simp)
    obtain ⟨p2, r2, w2⟩ := smS_spec q2
    obtain ⟨_, _, x2⟩ := smR_spec p2
    obtain ⟨_, _, y2⟩ := smR_spec r2
    obtain ⟨_, _, z2⟩ := smR_spec w2
    have q3 := a5 s3 (by simp)
    obtain ⟨p3, r3, w3⟩ := smS_spec q3
    obtain ⟨_, _, x3⟩ := smR_spec p3
    obtain ⟨_, _, y3⟩ := smR_spec r3
    obtain ⟨_, _, z3⟩ := smR_spec w3
    refine ct_m (.cons oRCopy (.cons oRSeC .nil)) .nil .nil mixed Tryz.func58 rfl rfl rfl ?_
    rw [eRCop4]
    refine ⟨?_⟩
    simp only [h4, b0, b1, b2, b3, t1, t2, t3, t4, q0, x0, y0, z0, q1, x1, y1, z1, q2, x2, y2, z2, q3, x3, y3, z3, Nat.zero_add, List.nil_append, List.append_nil, Nat.le_refl, decide_true, Bool.and_self, Bool.true_and, cond_true, takeAll, Nat.add_zero, Nat.sub_self, List.take_zero]
    rfl
  · simp at hl
theorem oRCop : SpecOK Tryz.prog 58 sCop := o_al Tryz.func58 (by kernel_rfl) rfl fun ds Q h => by
  unfold sCop at h; split at h
  · obtain ⟨m, ss, h, r⟩ := macA_spec h
    obtain ⟨h1, h2⟩ := cond_P h
    rw [Bool.and_eq_true] at h1
    exact ⟨_, _, .cons r .nil, cRCop m ss (Nat.le_of_ble_eq_true h1.1) h1.2, ownL_mac h1.2, rfl, h2⟩
  · exact h.elim
end

section
set_option maxHeartbeats 2000000
open Go Go.Proofs
set_option linter.unusedSimpArgs false
set_option linter.unusedVariables false
set_option maxRecDepth 100000
theorem CTN.args {P : Program} {f : FuncId} {ds es : List DV} {r : DV} (h : All2 AL ds es) (hc : CTN P f es r) : CTN P f ds r := fun w vs S G hov => by
  refine hc w vs S G ?_
  cases hov with
  | tup _ _ _ sub h1 h2 h3 h4 =>
    refine .tup vs es S sub (by rw [← h.len]; exact h1) (fun i e hi => ?_) h3 h4
    obtain ⟨d, g1, g2⟩ := h.get hi
    exact g2 _ _ _ _ (h2 i d g1)
theorem spec_al {P : Program} {f : FuncId} {s s' : Spec} (hs : SpecOK P f s) (hd : ∀ ds Q, s' ds Q → ∃ es, All2 AL ds es ∧ s es Q) : SpecOK P f s' := fun ds Q h => by
  obtain ⟨es, h1, h2⟩ := hd ds Q h
  obtain ⟨hg, r, hc, hp, hf, hq⟩ := hs es Q h2
  exact ⟨hg, r, hc.args h1, .inr (.inr ((ctn_of hc hp).args h1)), hf, hq⟩
def takeV4 (cs : List D) (K : List (List D) → List (List D) → List (List D) → List (List D) → Prop) : Prop := match cs with
  | [a, b, c, d] => takeS 1 a fun a => takeS 1 b fun b => takeS 1 c fun c => takeS 1 d fun d => K a b c d
  | _ => False
theorem takeV4_spec {cs : List D} {K : List (List D) → List (List D) → List (List D) → List (List D) → Prop} (h : takeV4 cs K) : ∃ a b c d, K a b c d ∧ All2 RD cs [.s 0 1 a [], .s 0 1 b [], .s 0 1 c [], .s 0 1 d []] := by
  unfold takeV4 at h
  split at h
  · obtain ⟨a, h, e0⟩ := takeS_spec h
    obtain ⟨b, h, e1⟩ := takeS_spec h
    obtain ⟨c, h, e2⟩ := takeS_spec h
    obtain ⟨d, h, e3⟩ := takeS_spec h
    exact ⟨a, b, c, d, h, .cons e0 (.cons e1 (.cons e2 (.cons e3 .nil)))⟩
  · exact h.elim
def sNewL : Spec := fun ds Q => match ds with
  | [.agg cs] => cond (noOwn cs) (takeV4 cs fun R0 R1 R2 R3 => cond (okV4 R0 R1 R2 R3) (cond (amay (toZ (mW R0)) (toZ (mW R1)) (toZ (mW R2)) (toZ (mW R3))) (Q (.tup [dO (mW R0) (mW R1) (mW R2) (mW R3), I 0])) (Q (.tup [dNil, I 400]))) False) False
  | _ => False
theorem sNewL_al : ∀ ds Q, sNewL ds Q → ∃ es, All2 AL ds es ∧ sNew es Q := fun ds Q h => by
  unfold sNewL at h; split at h
  · obtain ⟨h0, h⟩ := cond_P h
    obtain ⟨a, b, c, d, h, r⟩ := takeV4_spec h
    exact ⟨_, .cons (.agg r h0 rfl) .nil, h⟩
  · exact h.elim
theorem oRNewL : SpecOK Tryz.prog 50 sNewL := spec_al oRNew sNewL_al
def takeSt (cs : List D) (K : Int → Int → Int → List (List D) → Prop) : Prop := match cs with
  | [a, b, c, d] => takeI a fun a => takeI b fun b => takeI c fun c => takeS 4 d fun d => K a b c d
  | _ => False
theorem takeSt_spec {cs : List D} {K : Int → Int → Int → List (List D) → Prop} (h : takeSt cs K) : ∃ a b c d, K a b c d ∧ All2 RD cs [vN a, vN b, vN c, .s 0 4 d []] := by
  unfold takeSt at h
  split at h
  · obtain ⟨a, h, e0⟩ := takeI_spec h
    obtain ⟨b, h, e1⟩ := takeI_spec h
    obtain ⟨c, h, e2⟩ := takeI_spec h
    obtain ⟨d, h, e3⟩ := takeS_spec h
    exact ⟨a, b, c, d, h, .cons e0 (.cons e1 (.cons e2 (.cons e3 .nil)))⟩
  · exact h.elim
def sSNewL : Spec := fun ds Q => match ds with
  | [.agg cs] => cond (noOwn cs) (takeSt cs fun i g c R => cond (okZ 4 R && decide (R.length ≤ 4398046510977)) (cond (smay i g c (toZ R)) (Q (.tup [dSess i g c (.s 1 4 R []), I 0])) (Q (.tup [dSess 0 0 0 nilD, I 1100]))) False) False
  | _ => False
theorem sSNewL_al : ∀ ds Q, sSNewL ds Q → ∃ es, All2 AL ds es ∧ sSNew es Q := fun ds Q h => by
  unfold sSNewL at h; split at h
  · obtain ⟨h0, h⟩ := cond_P h
    obtain ⟨a, b, c, d, h, r⟩ := takeSt_spec h
    exact ⟨_, .cons (.agg r h0 rfl) .nil, h⟩
  · exact h.elim
theorem oRSNewL : SpecOK Tryz.prog 51 sSNewL := spec_al oRSNew sSNewL_al
def iRNew : Inl := inlM Tryz.prog [(50, sNewL), (51, sSNewL), (27, sRMm)] [] [] Tryz.f21
end

section
set_option maxHeartbeats 2000000
open Go Go.Proofs
set_option linter.unusedSimpArgs false
set_option linter.unusedVariables false
set_option maxRecDepth 100000
theorem eHere (h : Mh) (ss : List SesD) (at' : Int) (K : DV → Prop) : (ask Tryz.prog [(27, sAtD [.agg (macL 0 h ss)] (B (mmay h ss)))] Tryz.f55 [.agg (macL 0 h ss), I at'] K) = ([DV.agg (macL (0) h ss)] = [DV.agg (macL (0) h ss)] ∧ bif mmay h ss then bif decide (at' ≥ 0) then K (DV.c (D.v (Value.bool (decide (at' < @Nat.cast Int _ (List.length (List.map (sesL (0)) ss))))))) else K (DV.c (D.v (Value.bool false))) else K (DV.c (D.v (Value.bool false)))) := by kernel_rfl
theorem gRM : Goes Tryz.prog 27 := goes_of Tryz.func27 (by kernel_rfl) rfl
theorem cHere (h : Mh) (ss : List SesD) (i : Int) (hok : okM h ss = true) : CT Tryz.prog 55 [.agg (macL 0 h ss), I i] (B (mthere h ss i)) := by
  refine ct_s (.cons (oAtD gRM (cRM h ss hok) rfl rfl) .nil) mixed Tryz.func55 rfl rfl rfl ?_
  rw [eHere]
  refine ⟨rfl, ?_⟩
  unfold mthere
  rw [List.length_map]
  simp only [bifK]
def sHere : Spec := fun ds Q => match ds with
  | [d, e] => macA d fun h ss => inA e fun i => cond (okM h ss) (Q (B (mthere h ss i))) False
  | _ => False
theorem oHere : SpecOK Tryz.prog 55 sHere := o_al Tryz.func55 (by kernel_rfl) rfl fun ds Q h => by
  unfold sHere at h; split at h
  · obtain ⟨m, ss, h, r⟩ := macA_spec h
    obtain ⟨i, h, rfl⟩ := inA_spec h
    obtain ⟨h1, h2⟩ := cond_P h
    exact ⟨_, _, .cons r (.cons (.refl _) .nil), cHere m ss i h1, rfl, rfl, h2⟩
  · exact h.elim
def iRtl : Inl := inlM Tryz.prog [] [] [] Tryz.f57
theorem iRtl_ok : InlOK Tryz.prog 57 iRtl := inlM_ok .nil .nil .nil mixed Tryz.func57 rfl (goes_of Tryz.func57 (by kernel_rfl) rfl)
end

section
set_option maxHeartbeats 2000000
open Go Go.Proofs
set_option linter.unusedSimpArgs false
set_option linter.unusedVariables false
set_option maxRecDepth 100000
def frcI (n : Int) (K : Int → Prop) : Prop := match n with
  | .ofNat m => frcN m fun m => K (.ofNat m)
  | .negSucc m => frcN m fun m => K (.negSucc m)
theorem frcI_spec {n : Int} {K : Int → Prop} (h : frcI n K) : K n := by
  unfold frcI at h; split at h
  · exact frcN_spec h
  · exact frcN_spec h
def frcLs (f : D → (D → Prop) → Prop) : List D → (List D → Prop) → Prop
  | [], K => K []
  | d :: l, K => f d fun d => frcLs f l fun l => K (d :: l)
def frcLL (f : D → (D → Prop) → Prop) : List (List D) → (List (List D) → Prop) → Prop
  | [], K => K []
  | r :: l, K => frcLs f r fun r => frcLL f l fun l => K (r :: l)
def frcX : Nat → D → (D → Prop) → Prop
  | 0, d, K => K d
  | n + 1, d, K => match d with
    | .s t z rows sp => frcLL (frcX n) rows fun rows => frcLL (frcX n) sp fun sp => K (.s t z rows sp)
    | .v x => match x with
      | .int k i => frcI i fun i => K (.v (.int k i))
      | x => K (.v x)
    | d => K d
theorem frcLs_spec {f : D → (D → Prop) → Prop} (hf : ∀ d K, f d K → K d) : ∀ (l : List D) (K : List D → Prop), frcLs f l K → K l
  | [], K, h => h
  | d :: l, K, h => frcLs_spec hf l _ (hf d _ h)
theorem frcLL_spec {f : D → (D → Prop) → Prop} (hf : ∀ d K, f d K → K d) : ∀ (l : List (List D)) (K : List (List D) → Prop), frcLL f l K → K l
  | [], K, h => h
  | r :: l, K, h => frcLL_spec hf l _ (frcLs_spec hf r _ h)
theorem frcX_spec : ∀ (n : Nat) (d : D) (K : D → Prop), frcX n d K → K d
  | 0, d, K, h => h
  | n + 1, d, K, h => by
    unfold frcX at h; split at h
    · exact frcLL_spec (frcX_spec n) _ _ (frcLL_spec (frcX_spec n) _ _ h)
    · split at h
      · exact frcI_spec h
      · exact h
    · exact h
def frcV (d : DV) (K : DV → Prop) : Prop := match d with
  | .c d => frcX 3 d fun d => K (.c d)
  | .agg cs => frcLs (frcX 3) cs fun cs => K (.agg cs)
  | .tup [.c d, e] => frcX 3 d fun d => K (.tup [.c d, e])
  | d => K d
theorem frcV_spec {d : DV} {K : DV → Prop} (h : frcV d K) : K d := by
  unfold frcV at h; split at h
  · exact frcX_spec 3 _ _ h
  · exact frcLs_spec (frcX_spec 3) _ _ h
  · exact frcX_spec 3 _ _ h
  · exact h
def sF (s : Spec) : Spec := fun ds Q => s ds fun r => frcV r Q
theorem oF {P : Program} {f : FuncId} {s : Spec} (h : SpecOK P f s) : SpecOK P f (sF s) := fun ds Q hq => by
  obtain ⟨hg, r, hc, hp, hf, hq⟩ := h ds _ hq
  exact ⟨hg, r, hc, hp, hf, frcV_spec hq⟩
def iRCopF : Inl := callB Tryz.prog [34] (sF sCop)
theorem iRCopF_ok : InlOK Tryz.prog 58 iRCopF := callB_ok (oF oRCop)
def spC : List (FuncId × Spec) := [(55, sHere), (56, sUp), (146, sUnd), (68, sAMay), (122, sRM), (123, sWMy), (145, sB idm), (164, sRThr), (121, sRRgM), (136, sB lab)]
theorem spC_ok : SpecsOK Tryz.prog spC := .cons (oHere) (.cons (oUp2) (.cons (oRUnd) (.cons (oRAMay) (.cons (oQM) (.cons (oWPy) (.cons (oRId) (.cons (oRThr) (.cons (oRRgM) (.cons (oRReg) (.nil))))))))))
def jRT : Inl := inlM Tryz.prog spC [] [] Tryz.f165
theorem jRT_ok : InlOK Tryz.prog 165 jRT := inlM_ok spC_ok .nil (.nil) mixed Tryz.func165 rfl (goes_of Tryz.func165 (by kernel_rfl) rfl)
def jGood : Inl := inlM Tryz.prog spC [] [(165, jRT)] Tryz.f176
theorem jGood_ok : InlOK Tryz.prog 176 jGood := inlM_ok spC_ok .nil (.cons jRT_ok (.nil)) mixed Tryz.func176 rfl (goes_of Tryz.func176 (by kernel_rfl) rfl)
def jWR : Inl := inlM Tryz.prog spC [] [] Tryz.f190
theorem jWR_ok : InlOK Tryz.prog 190 jWR := inlM_ok spC_ok .nil (.nil) mixed Tryz.func190 rfl (goes_of Tryz.func190 (by kernel_rfl) rfl)
def jFW : Inl := inlM Tryz.prog spC [] [] Tryz.f189
theorem jFW_ok : InlOK Tryz.prog 189 jFW := inlM_ok spC_ok .nil (.nil) mixed Tryz.func189 rfl (goes_of Tryz.func189 (by kernel_rfl) rfl)
def jPl : Inl := inlM Tryz.prog spC [] [] Tryz.f141
theorem jPl_ok : InlOK Tryz.prog 141 jPl := inlM_ok spC_ok .nil (.nil) mixed Tryz.func141 rfl (goes_of Tryz.func141 (by kernel_rfl) rfl)
def jWW : Inl := inlM Tryz.prog spC [] [(141, jPl)] Tryz.f87
theorem jWW_ok : InlOK Tryz.prog 87 jWW := inlM_ok spC_ok .nil (.cons jPl_ok (.nil)) mixed Tryz.func87 rfl (goes_of Tryz.func87 (by kernel_rfl) rfl)
def jWA : Inl := inlM Tryz.prog spC [] [] Tryz.f171
theorem jWA_ok : InlOK Tryz.prog 171 jWA := inlM_ok spC_ok .nil (.nil) mixed Tryz.func171 rfl (goes_of Tryz.func171 (by kernel_rfl) rfl)
def jAdd : Inl := inlM Tryz.prog spC [] [] Tryz.f85
theorem jAdd_ok : InlOK Tryz.prog 85 jAdd := inlM_ok spC_ok .nil (.nil) mixed Tryz.func85 rfl (goes_of Tryz.func85 (by kernel_rfl) rfl)
def jRun83 : Inl := inlM Tryz.prog spC [] [] Tryz.f83
theorem jRun83_ok : InlOK Tryz.prog 83 jRun83 := inlM_ok spC_ok .nil (.nil) mixed Tryz.func83 rfl (goes_of Tryz.func83 (by kernel_rfl) rfl)
def jNeeds : Inl := inlM Tryz.prog spC [] [(83, jRun83)] Tryz.f167
theorem jNeeds_ok : InlOK Tryz.prog 167 jNeeds := inlM_ok spC_ok .nil (.cons jRun83_ok (.nil)) mixed Tryz.func167 rfl (goes_of Tryz.func167 (by kernel_rfl) rfl)
def jFetch : Inl := inlM Tryz.prog spC [] [(167, jNeeds), (58, iRCopF), (57, iRtl), (176, jGood), (190, jWR), (189, jFW)] Tryz.f169
theorem jFetch_ok : InlOK Tryz.prog 169 jFetch := inlM_ok spC_ok .nil (.cons jNeeds_ok (.cons iRCopF_ok (.cons iRtl_ok (.cons jGood_ok (.cons jWR_ok (.cons jFW_ok (.nil))))))) mixed Tryz.func169 rfl (goes_of Tryz.func169 (by kernel_rfl) rfl)
def jStore : Inl := inlM Tryz.prog spC [] [(83, jRun83), (58, iRCopF), (57, iRtl), (87, jWW)] Tryz.f39
theorem jStore_ok : InlOK Tryz.prog 39 jStore := inlM_ok spC_ok .nil (.cons jRun83_ok (.cons iRCopF_ok (.cons iRtl_ok (.cons jWW_ok (.nil))))) mixed Tryz.func39 rfl (goes_of Tryz.func39 (by kernel_rfl) rfl)
def jCalc : Inl := inlM Tryz.prog spC [] [(83, jRun83), (58, iRCopF), (85, jAdd)] Tryz.f34
theorem jCalc_ok : InlOK Tryz.prog 34 jCalc := inlM_ok spC_ok .nil (.cons jRun83_ok (.cons iRCopF_ok (.cons jAdd_ok (.nil)))) mixed Tryz.func34 rfl (goes_of Tryz.func34 (by kernel_rfl) rfl)
def jRun : Inl := inlM Tryz.prog spC [] [(83, jRun83), (167, jNeeds), (169, jFetch), (39, jStore), (34, jCalc), (58, iRCopF), (171, jWA)] Tryz.f128
theorem jRun_ok : InlOK Tryz.prog 128 jRun := inlM_ok spC_ok .nil (.cons jRun83_ok (.cons jNeeds_ok (.cons jFetch_ok (.cons jStore_ok (.cons jCalc_ok (.cons iRCopF_ok (.cons jWA_ok (.nil)))))))) mixed Tryz.func128 rfl (goes_of Tryz.func128 (by kernel_rfl) rfl)
end

section
set_option maxHeartbeats 2000000
open Go Go.Proofs
set_option linter.unusedSimpArgs false
set_option linter.unusedVariables false
set_option maxRecDepth 100000
theorem ins_ok {s : SesD} (hs : okSes s = true) (h0 : 0 ≤ s.pc) (h1 : s.pc < s.pg.length) : iOK s = true := by
  unfold okSes at hs
  simp only [Bool.and_eq_true] at hs
  obtain ⟨e, w, _⟩ := okZ_spec hs.1
  have hk : s.pc.toNat < (toZ s.pg).length := by rw [toZ_len]; omega
  unfold iOK
  rw [e]
  exact isJ_mZ (j := 0) (n := 4) w hk (by omega)
theorem ins_eq {s : SesD} (hs : okSes s = true) : iC s = ((toZ s.pg).getD s.pc.toNat []).getD 0 0 ∧ iA s = ((toZ s.pg).getD s.pc.toNat []).getD 1 0 ∧ iB s = ((toZ s.pg).getD s.pc.toNat []).getD 2 0 ∧ iD s = ((toZ s.pg).getD s.pc.toNat []).getD 3 0 := by
  unfold okSes at hs
  simp only [Bool.and_eq_true] at hs
  obtain ⟨e, w, _⟩ := okZ_spec hs.1
  have key : ∀ j, hdJ (List.drop j (List.getD s.pg (Int.toNat s.pc) [])) = ((toZ s.pg).getD s.pc.toNat []).getD j 0 := fun j => by
    conv => lhs; rw [e]
    exact hdJ_mZ _ _ j
  unfold iC iA iB iD
  refine ⟨key 0, ?_, ?_, ?_⟩
  · rw [← key 1]; simp [List.drop_one]
  · rw [← key 2]; simp [List.tail_drop, ← List.drop_one]
  · rw [← key 3]; simp [List.tail_drop, ← List.drop_one]
theorem ins_may {s : SesD} (hs : okSes s = true) {R0 R1 R2 R3 : List (List D)} (hm : sesMay R0 R1 R2 R3 s = true) (h1 : s.pc < s.pg.length) : imay (iC s) (iA s) (iB s) (iD s) = true ∧ (iC s = 4 → s.pc < iB s ∧ iB s ≤ s.pg.length) := by
  obtain ⟨e1, e2, e3, e4⟩ := ins_eq hs
  have h0 := (sesMay_pc hm).1
  unfold sesMay smay at hm
  simp only [Bool.and_eq_true] at hm
  have hp := hm.1.2.2.2.2
  unfold pmay pmayN at hp
  simp only [Bool.and_eq_true, List.all_eq_true, List.mem_range] at hp
  have := hp.1 s.pc.toNat (by rw [toZ_len]; omega)
  unfold pI imayR at this
  rw [← e1, ← e2, ← e3, ← e4] at this
  simp only [Bool.and_eq_true, Bool.not_eq_true', Bool.and_eq_false_iff, Bool.or_eq_false_iff, beq_eq_false_iff_ne, decide_eq_false_iff_not] at this
  refine ⟨this.1, fun h4 => ?_⟩
  rcases this.2 with h | h
  · exact (h h4).elim
  · rw [toZ_len] at h; omega
theorem wrap1 {n : Int} (h0 : 0 ≤ n) (h1 : n ≤ 1000000) : IntKind.wrap IntKind.i64 (n + 1) = n + 1 := by
  obtain ⟨m, rfl⟩ := Int.eq_ofNat_of_zero_le h0
  exact wrap_nat (n := 1) (by omega)
def regAt (s : SesD) (a : Int) : Int := bif decide (a = 0) then s.r0 else bif decide (a = 1) then s.r1 else bif decide (a = 2) then s.r2 else s.r3
theorem at_cpF {p : Int → Bool} {h : Mh} {ss : List SesD} (i : Int) (hok : okM h ss = true) : mAt p h ss i = true → smM h ss = true ∧ ss.length ≤ 4 := fun hm => by
  unfold mAt at hm
  rw [Bool.and_eq_true] at hm
  exact there_cpF i hok hm.1
theorem mAt_spec {p : Int → Bool} {h : Mh} {ss : List SesD} {i : Int} (hok : okM h ss = true) (hm : mAt p h ss i = true) : ∃ s, Foc h ss i s ∧ s.st = 0 ∧ 0 ≤ s.pc ∧ s.pc < s.pg.length ∧ s.pg.length ≤ 16 ∧ p (iC s) = true := by
  unfold mAt at hm
  rw [Bool.and_eq_true] at hm
  obtain ⟨s, f⟩ := foc hok hm.1
  have h2 := hm.2
  rw [f.at'] at h2
  simp only [atS, Bool.and_eq_true, decide_eq_true_eq, beq_iff_eq] at h2
  refine ⟨s, f, h2.1, (sesMay_pc f.may).1, h2.2.1, ?_, ?_⟩
  · have := f.may
    unfold sesMay smay at this
    simp only [Bool.and_eq_true] at this
    have := pmay_len this.1.2.2.2.2
    rwa [toZ_len] at this
  · have := h2.2.2
    unfold codeAt at this
    unfold iC
    rw [List.drop_zero]; exact this
end

section
set_option maxHeartbeats 2000000
open Go Go.Proofs
set_option linter.unusedSimpArgs false
set_option linter.unusedVariables false
set_option maxRecDepth 100000
def tellE (h : Mh) (a b k v : Int) : Mh := { h with tr := bif decide ((h.tr.length : Int) < 512) then h.tr ++ [[vN a, vN b, vN k, vN v]] else h.tr }
theorem Foc.oev {h : Mh} {ss : List SesD} {i : Int} {s : SesD} (f : Foc h ss i s) (a b c d : Int) : whole (List.length h.tr + 1) (List.take (List.length h.tr) h.tr ++ [[vN a, vN b, vN c, vN d]]) := whole_add f.tr rfl
theorem Foc.fo0 {h : Mh} {ss : List SesD} {i : Int} {s : SesD} (f : Foc h ss i s) : Vm.foAt (Int.toNat i) (Int.toNat i) (List.length (List.map (sesL 1) ss)) := f.foAt
theorem note_leaf {h : Mh} {ss : List SesD} {i : Int} {s : SesD} (f : Foc h ss i s) (h' : Mh) (e : h'.tr = h.tr) (j : Nat) (s' : SesD) (a b k v : Int) :
    bif decide (@Nat.cast Int _ (List.length h.tr) < 512) then bif decide (List.length h.tr ≤ List.length h.tr) && (decide ((List.length h.tr + 1) * 32 ≤ 140737488355328) && decide (List.length h.tr + 1 ≤ 9223372036854775807)) then AL (DV.tup [DV.agg (macLR (1) { h' with tr := (List.take (List.length h.tr) h.tr ++ [[vN a, vN b, vN k, vN v]]) } (List.set (List.map (sesL (1)) ss) j (sesL (1) s'))), I (0)]) (macR (tellE h' a b k v) (ss.set j s') 0) else False else AL (DV.tup [DV.agg (macLR (1) h' (List.set (List.map (sesL (1)) ss) j (sesL (1) s'))), I (0)]) (macR (tellE h' a b k v) (ss.set j s') 0) := by
  unfold tellE
  rw [e]
  cases hl : decide ((h.tr.length : Int) < 512)
  · have : ({ h' with tr := h.tr } : Mh) = h' := by rw [← e]
    simp only [cond_false, this]
    exact al_macR _ _ _ _ _
  · have hl' : h.tr.length < 512 := by have := of_decide_eq_true hl; omega
    rw [decide_eq_true (Nat.le_refl _), decide_eq_true (by omega), decide_eq_true (by omega), List.take_length]
    exact al_macR _ _ _ _ _
theorem whole_mZ (l : List (List Int)) : whole (List.length (mZ l)) (mZ l) := by
  refine ⟨rfl, ?_⟩
  unfold allK mZ
  rw [List.all_map, List.all_eq_true]
  intro r _
  simp only [Function.comp, List.all_map, List.all_eq_true]
  intro n _
  rfl
def storeS (s : SesD) : SesD := { s with pc := s.pc + 1, wt := mZ (withW (toZ s.wt) [iB s, iD s, regAt s (iA s)]) }
theorem imay_A {c a b d : Int} (h : imay c a b d = true) (hc : c = 0 ∨ c = 1 ∨ c = 2 ∨ c = 3 ∨ c = 4) : a = 0 ∨ a = 1 ∨ a = 2 ∨ a = 3 := by
  refine lab_cases ?_
  unfold imay at h
  rcases hc with rfl | rfl | rfl | rfl | rfl <;> simp at h <;> exact h.1
theorem regAt0 (s : SesD) : regAt s 0 = s.r0 := rfl
theorem regAt1 (s : SesD) : regAt s 1 = s.r1 := rfl
theorem regAt2 (s : SesD) : regAt s 2 = s.r2 := rfl
theorem regAt3 (s : SesD) : regAt s 3 = s.r3 := rfl
theorem eSto (h : Mh) (ss : List SesD) (s : SesD) (i : Int) (t : Bool) (K : DV → Prop) : (askW Tryz.prog (hkF [(80, sAtD [.c (.p 0 (macL 0 h ss) 0), I i, .c (.s 0 1 [[vi 3]] [])] (B t)), (86, sWth)] [] [(53, iCpF t h ss i s), (54, iNote)]) Tryz.f38 [.agg (macL 0 h ss), I i] K) = ([DV.c (D.p (0) (macL (0) h ss) (0)), I i, DV.c (D.s (0) (1) [[vi (3)]] [])] = [DV.c (D.p (0) (macL (0) h ss) (0)), I i, DV.c (D.s (0) (1) [[vi (3)]] [])] ∧ bif !t then K (DV.tup [DV.agg mac0, I (1600)]) else t = true ∧ [DV.agg (macL (0) h ss)] = [DV.agg (macL (0) h ss)] ∧ sesAt (List.map (sesL (1)) ss) (Int.toNat i) (1) s ∧ bif decide (0 ≤ i) && decide (i < @Nat.cast Int _ (List.length (List.map (sesL (1)) ss))) then foAt (addN (0) (Int.toNat i)) (Int.toNat i) (List.length (List.map (sesL (1)) ss)) ∧ foAt (addN (0) (Int.toNat i)) (Int.toNat i) (List.length (List.map (sesL (1)) ss)) ∧ bif decide (0 ≤ s.pc) && decide (s.pc < @Nat.cast Int _ (List.length s.pg)) then bif iOK s then bif decide (iA s = 0) then foAt (addN (0) (Int.toNat i)) (Int.toNat i) (List.length (List.map (sesL (1)) ss)) ∧ foAt (addN (0) (Int.toNat i)) (Int.toNat i) (List.length (List.map (sesL (1)) ss)) ∧ bif okZ (3) s.wt then foAt (addN (0) (Int.toNat i)) (Int.toNat i) (List.length (List.map (sesL (1)) ss)) ∧ foAt (Int.toNat i) (Int.toNat i) (List.length (List.map (sesL (1)) ss)) ∧ whole (List.length (mZ (withW (toZ s.wt) [iB s, iD s, s.r0]))) (mZ (withW (toZ s.wt) [iB s, iD s, s.r0]) ++ []) ∧ foAt (addN (0) (Int.toNat i)) (Int.toNat i) (List.length (List.map (sesL (1)) ss)) ∧ foAt (addN (0) (Int.toNat i)) (Int.toNat i) (List.length (List.map (sesL (1)) ss)) ∧ bif decide (@Nat.cast Int _ (List.length h.tr) < 512) then bif decide (0 ≤ i) && decide (i < @Nat.cast Int _ (List.length (List.map (sesL (1)) ss))) then foAt (addN (0) (Int.toNat i)) (Int.toNat i) (List.length (List.map (sesL (1)) ss)) ∧ foAt (addN (0) (Int.toNat i)) (Int.toNat i) (List.length (List.map (sesL (1)) ss)) ∧ bif decide (List.length h.tr ≤ List.length h.tr) && (decide ((List.length h.tr + 1) * 32 ≤ 140737488355328) && decide (List.length h.tr + 1 ≤ 9223372036854775807)) then whole (List.length h.w0) h.w0 ∧ whole (List.length h.w1) h.w1 ∧ whole (List.length h.w2) h.w2 ∧ whole (List.length h.w3) h.w3 ∧ whole (List.length (List.map (sesL (1)) ss)) (List.set (List.map (sesL (1)) ss) (Int.toNat i) (sesL (1) { s with pc := (IntKind.wrap IntKind.i64 (s.pc + 1)), wt := (mZ (withW (toZ s.wt) [iB s, iD s, s.r0]) ++ []) })) ∧ whole (List.length h.tr + 1) (List.take (List.length h.tr) h.tr ++ [[vN s.id, vN s.lb, vN (1), vN s.r0]]) ∧ K (DV.tup [DV.agg (macLR (1) { h with tr := (List.take (List.length h.tr) h.tr ++ [[vN s.id, vN s.lb, vN (1), vN s.r0]]) } (List.set (List.map (sesL (1)) ss) (Int.toNat i) (sesL (1) { s with pc := (IntKind.wrap IntKind.i64 (s.pc + 1)), wt := (mZ (withW (toZ s.wt) [iB s, iD s, s.r0]) ++ []) }))), I (0)]) else False else False else whole (List.length h.w0) h.w0 ∧ whole (List.length h.w1) h.w1 ∧ whole (List.length h.w2) h.w2 ∧ whole (List.length h.w3) h.w3 ∧ whole (List.length (List.map (sesL (1)) ss)) (List.set (List.map (sesL (1)) ss) (Int.toNat i) (sesL (1) { s with pc := (IntKind.wrap IntKind.i64 (s.pc + 1)), wt := (mZ (withW (toZ s.wt) [iB s, iD s, s.r0]) ++ []) })) ∧ whole (List.length h.tr) h.tr ∧ K (DV.tup [DV.agg (macLR (1) h (List.set (List.map (sesL (1)) ss) (Int.toNat i) (sesL (1) { s with pc := (IntKind.wrap IntKind.i64 (s.pc + 1)), wt := (mZ (withW (toZ s.wt) [iB s, iD s, s.r0]) ++ []) }))), I (0)]) else False else bif decide (iA s = 1) then foAt (addN (0) (Int.toNat i)) (Int.toNat i) (List.length (List.map (sesL (1)) ss)) ∧ foAt (addN (0) (Int.toNat i)) (Int.toNat i) (List.length (List.map (sesL (1)) ss)) ∧ bif okZ (3) s.wt then foAt (addN (0) (Int.toNat i)) (Int.toNat i) (List.length (List.map (sesL (1)) ss)) ∧ foAt (Int.toNat i) (Int.toNat i) (List.length (List.map (sesL (1)) ss)) ∧ whole (List.length (mZ (withW (toZ s.wt) [iB s, iD s, s.r1]))) (mZ (withW (toZ s.wt) [iB s, iD s, s.r1]) ++ []) ∧ foAt (addN (0) (Int.toNat i)) (Int.toNat i) (List.length (List.map (sesL (1)) ss)) ∧ foAt (addN (0) (Int.toNat i)) (Int.toNat i) (List.length (List.map (sesL (1)) ss)) ∧ bif decide (@Nat.cast Int _ (List.length h.tr) < 512) then bif decide (0 ≤ i) && decide (i < @Nat.cast Int _ (List.length (List.map (sesL (1)) ss))) then foAt (addN (0) (Int.toNat i)) (Int.toNat i) (List.length (List.map (sesL (1)) ss)) ∧ foAt (addN (0) (Int.toNat i)) (Int.toNat i) (List.length (List.map (sesL (1)) ss)) ∧ bif decide (List.length h.tr ≤ List.length h.tr) && (decide ((List.length h.tr + 1) * 32 ≤ 140737488355328) && decide (List.length h.tr + 1 ≤ 9223372036854775807)) then whole (List.length h.w0) h.w0 ∧ whole (List.length h.w1) h.w1 ∧ whole (List.length h.w2) h.w2 ∧ whole (List.length h.w3) h.w3 ∧ whole (List.length (List.map (sesL (1)) ss)) (List.set (List.map (sesL (1)) ss) (Int.toNat i) (sesL (1) { s with pc := (IntKind.wrap IntKind.i64 (s.pc + 1)), wt := (mZ (withW (toZ s.wt) [iB s, iD s, s.r1]) ++ []) })) ∧ whole (List.length h.tr + 1) (List.take (List.length h.tr) h.tr ++ [[vN s.id, vN s.lb, vN (1), vN s.r1]]) ∧ K (DV.tup [DV.agg (macLR (1) { h with tr := (List.take (List.length h.tr) h.tr ++ [[vN s.id, vN s.lb, vN (1), vN s.r1]]) } (List.set (List.map (sesL (1)) ss) (Int.toNat i) (sesL (1) { s with pc := (IntKind.wrap IntKind.i64 (s.pc + 1)), wt := (mZ (withW (toZ s.wt) [iB s, iD s, s.r1]) ++ []) }))), I (0)]) else False else False else whole (List.length h.w0) h.w0 ∧ whole (List.length h.w1) h.w1 ∧ whole (List.length h.w2) h.w2 ∧ whole (List.length h.w3) h.w3 ∧ whole (List.length (List.map (sesL (1)) ss)) (List.set (List.map (sesL (1)) ss) (Int.toNat i) (sesL (1) { s with pc := (IntKind.wrap IntKind.i64 (s.pc + 1)), wt := (mZ (withW (toZ s.wt) [iB s, iD s, s.r1]) ++ []) })) ∧ whole (List.length h.tr) h.tr ∧ K (DV.tup [DV.agg (macLR (1) h (List.set (List.map (sesL (1)) ss) (Int.toNat i) (sesL (1) { s with pc := (IntKind.wrap IntKind.i64 (s.pc + 1)), wt := (mZ (withW (toZ s.wt) [iB s, iD s, s.r1]) ++ []) }))), I (0)]) else False else bif decide (iA s = 2) then foAt (addN (0) (Int.toNat i)) (Int.toNat i) (List.length (List.map (sesL (1)) ss)) ∧ foAt (addN (0) (Int.toNat i)) (Int.toNat i) (List.length (List.map (sesL (1)) ss)) ∧ bif okZ (3) s.wt then foAt (addN (0) (Int.toNat i)) (Int.toNat i) (List.length (List.map (sesL (1)) ss)) ∧ foAt (Int.toNat i) (Int.toNat i) (List.length (List.map (sesL (1)) ss)) ∧ whole (List.length (mZ (withW (toZ s.wt) [iB s, iD s, s.r2]))) (mZ (withW (toZ s.wt) [iB s, iD s, s.r2]) ++ []) ∧ foAt (addN (0) (Int.toNat i)) (Int.toNat i) (List.length (List.map (sesL (1)) ss)) ∧ foAt (addN (0) (Int.toNat i)) (Int.toNat i) (List.length (List.map (sesL (1)) ss)) ∧ bif decide (@Nat.cast Int _ (List.length h.tr) < 512) then bif decide (0 ≤ i) && decide (i < @Nat.cast Int _ (List.length (List.map (sesL (1)) ss))) then foAt (addN (0) (Int.toNat i)) (Int.toNat i) (List.length (List.map (sesL (1)) ss)) ∧ foAt (addN (0) (Int.toNat i)) (Int.toNat i) (List.length (List.map (sesL (1)) ss)) ∧ bif decide (List.length h.tr ≤ List.length h.tr) && (decide ((List.length h.tr + 1) * 32 ≤ 140737488355328) && decide (List.length h.tr + 1 ≤ 9223372036854775807)) then whole (List.length h.w0) h.w0 ∧ whole (List.length h.w1) h.w1 ∧ whole (List.length h.w2) h.w2 ∧ whole (List.length h.w3) h.w3 ∧ whole (List.length (List.map (sesL (1)) ss)) (List.set (List.map (sesL (1)) ss) (Int.toNat i) (sesL (1) { s with pc := (IntKind.wrap IntKind.i64 (s.pc + 1)), wt := (mZ (withW (toZ s.wt) [iB s, iD s, s.r2]) ++ []) })) ∧ whole (List.length h.tr + 1) (List.take (List.length h.tr) h.tr ++ [[vN s.id, vN s.lb, vN (1), vN s.r2]]) ∧ K (DV.tup [DV.agg (macLR (1) { h with tr := (List.take (List.length h.tr) h.tr ++ [[vN s.id, vN s.lb, vN (1), vN s.r2]]) } (List.set (List.map (sesL (1)) ss) (Int.toNat i) (sesL (1) { s with pc := (IntKind.wrap IntKind.i64 (s.pc + 1)), wt := (mZ (withW (toZ s.wt) [iB s, iD s, s.r2]) ++ []) }))), I (0)]) else False else False else whole (List.length h.w0) h.w0 ∧ whole (List.length h.w1) h.w1 ∧ whole (List.length h.w2) h.w2 ∧ whole (List.length h.w3) h.w3 ∧ whole (List.length (List.map (sesL (1)) ss)) (List.set (List.map (sesL (1)) ss) (Int.toNat i) (sesL (1) { s with pc := (IntKind.wrap IntKind.i64 (s.pc + 1)), wt := (mZ (withW (toZ s.wt) [iB s, iD s, s.r2]) ++ []) })) ∧ whole (List.length h.tr) h.tr ∧ K (DV.tup [DV.agg (macLR (1) h (List.set (List.map (sesL (1)) ss) (Int.toNat i) (sesL (1) { s with pc := (IntKind.wrap IntKind.i64 (s.pc + 1)), wt := (mZ (withW (toZ s.wt) [iB s, iD s, s.r2]) ++ []) }))), I (0)]) else False else bif decide (iA s = 3) then foAt (addN (0) (Int.toNat i)) (Int.toNat i) (List.length (List.map (sesL (1)) ss)) ∧ foAt (addN (0) (Int.toNat i)) (Int.toNat i) (List.length (List.map (sesL (1)) ss)) ∧ bif okZ (3) s.wt then foAt (addN (0) (Int.toNat i)) (Int.toNat i) (List.length (List.map (sesL (1)) ss)) ∧ foAt (Int.toNat i) (Int.toNat i) (List.length (List.map (sesL (1)) ss)) ∧ whole (List.length (mZ (withW (toZ s.wt) [iB s, iD s, s.r3]))) (mZ (withW (toZ s.wt) [iB s, iD s, s.r3]) ++ []) ∧ foAt (addN (0) (Int.toNat i)) (Int.toNat i) (List.length (List.map (sesL (1)) ss)) ∧ foAt (addN (0) (Int.toNat i)) (Int.toNat i) (List.length (List.map (sesL (1)) ss)) ∧ bif decide (@Nat.cast Int _ (List.length h.tr) < 512) then bif decide (0 ≤ i) && decide (i < @Nat.cast Int _ (List.length (List.map (sesL (1)) ss))) then foAt (addN (0) (Int.toNat i)) (Int.toNat i) (List.length (List.map (sesL (1)) ss)) ∧ foAt (addN (0) (Int.toNat i)) (Int.toNat i) (List.length (List.map (sesL (1)) ss)) ∧ bif decide (List.length h.tr ≤ List.length h.tr) && (decide ((List.length h.tr + 1) * 32 ≤ 140737488355328) && decide (List.length h.tr + 1 ≤ 9223372036854775807)) then whole (List.length h.w0) h.w0 ∧ whole (List.length h.w1) h.w1 ∧ whole (List.length h.w2) h.w2 ∧ whole (List.length h.w3) h.w3 ∧ whole (List.length (List.map (sesL (1)) ss)) (List.set (List.map (sesL (1)) ss) (Int.toNat i) (sesL (1) { s with pc := (IntKind.wrap IntKind.i64 (s.pc + 1)), wt := (mZ (withW (toZ s.wt) [iB s, iD s, s.r3]) ++ []) })) ∧ whole (List.length h.tr + 1) (List.take (List.length h.tr) h.tr ++ [[vN s.id, vN s.lb, vN (1), vN s.r3]]) ∧ K (DV.tup [DV.agg (macLR (1) { h with tr := (List.take (List.length h.tr) h.tr ++ [[vN s.id, vN s.lb, vN (1), vN s.r3]]) } (List.set (List.map (sesL (1)) ss) (Int.toNat i) (sesL (1) { s with pc := (IntKind.wrap IntKind.i64 (s.pc + 1)), wt := (mZ (withW (toZ s.wt) [iB s, iD s, s.r3]) ++ []) }))), I (0)]) else False else False else whole (List.length h.w0) h.w0 ∧ whole (List.length h.w1) h.w1 ∧ whole (List.length h.w2) h.w2 ∧ whole (List.length h.w3) h.w3 ∧ whole (List.length (List.map (sesL (1)) ss)) (List.set (List.map (sesL (1)) ss) (Int.toNat i) (sesL (1) { s with pc := (IntKind.wrap IntKind.i64 (s.pc + 1)), wt := (mZ (withW (toZ s.wt) [iB s, iD s, s.r3]) ++ []) })) ∧ whole (List.length h.tr) h.tr ∧ K (DV.tup [DV.agg (macLR (1) h (List.set (List.map (sesL (1)) ss) (Int.toNat i) (sesL (1) { s with pc := (IntKind.wrap IntKind.i64 (s.pc + 1)), wt := (mZ (withW (toZ s.wt) [iB s, iD s, s.r3]) ++ []) }))), I (0)]) else False else False else False else False else False) := by kernel_rfl
theorem has1_spec {a x : Int} (h : has1 a x = true) : x = a := by
  unfold has1 at h
  cases h1 : x == a
  · simp [h1] at h
  · simpa using h1
theorem okSes_z {s : SesD} (h : okSes s = true) : okZ 4 s.pg = true ∧ okZ 3 s.rd = true ∧ okZ 3 s.wt = true := by
  unfold okSes at h; simpa [Bool.and_eq_true] using h
def storeM (h : Mh) (s : SesD) : Mh := tellE h s.id s.lb 1 (regAt s (iA s))
theorem cSto (h : Mh) (ss : List SesD) (i : Int) (hok : okM h ss = true) : CT Tryz.prog 38 [.agg (macL 0 h ss), I i] (bif mAt (has1 3) h ss i then macR (storeM h (ss.getD i.toNat default)) (ss.set i.toNat (storeS (ss.getD i.toNat default))) 0 else macE 1600) := by
  refine ct_wF (.cons (oAtD gAt (cAt1 h ss i 3 hok) rfl rfl) (.cons oWth .nil)) .nil (.cons (iCpF_ok i (ss.getD i.toNat default) (at_cpF (p := has1 3) i hok)) (.cons iNote_ok .nil)) mixed Tryz.func38 rfl rfl rfl ?_
  rw [eSto]
  refine ⟨⟨rfl, ?_⟩⟩
  cases hm : mAt (has1 3) h ss i with
  | false => exact al_e0 1600
  | true =>
    obtain ⟨s, f, hst, hp0, hp1, hp2, hcode⟩ := mAt_spec hok hm
    rw [f.getD]
    refine ⟨rfl, rfl, f.row, ?_⟩
    have hpc : (decide (0 ≤ s.pc) && decide (s.pc < @Nat.cast Int _ (List.length s.pg))) = true := by rw [decide_eq_true hp0, decide_eq_true hp1]; rfl
    have hw : IntKind.wrap IntKind.i64 (s.pc + 1) = s.pc + 1 := wrap1 hp0 (by omega)
    simp only [f.ix, cond_true, f.foAt, f.fo0, f.ow0, f.ow1, f.ow2, f.ow3, f.otr, f.oss, f.oev, true_and, hpc, ins_ok f.ok hp0 hp1, hw, (okSes_z f.ok).2.2, List.append_nil, whole_mZ]
    have hA := imay_A (ins_may f.ok f.may hp1).1 (.inr (.inr (.inr (.inl (has1_spec hcode)))))
    unfold storeS storeM
    rcases hA with e | e | e | e <;> rw [e] <;> simp only [Int.reduceEq, decide_true, decide_false, cond_true, cond_false, regAt0, regAt1, regAt2, regAt3]
    · exact note_leaf f h rfl i.toNat { s with pc := s.pc + 1, wt := mZ (withW (toZ s.wt) [iB s, iD s, s.r0]) } s.id s.lb 1 s.r0
    · exact note_leaf f h rfl i.toNat { s with pc := s.pc + 1, wt := mZ (withW (toZ s.wt) [iB s, iD s, s.r1]) } s.id s.lb 1 s.r1
    · exact note_leaf f h rfl i.toNat { s with pc := s.pc + 1, wt := mZ (withW (toZ s.wt) [iB s, iD s, s.r2]) } s.id s.lb 1 s.r2
    · exact note_leaf f h rfl i.toNat { s with pc := s.pc + 1, wt := mZ (withW (toZ s.wt) [iB s, iD s, s.r3]) } s.id s.lb 1 s.r3
end

section
set_option maxHeartbeats 2000000
open Go Go.Proofs
set_option linter.unusedSimpArgs false
set_option linter.unusedVariables false
set_option maxRecDepth 100000
def bB : SesD := ⟨5, 1, 1, [[vN 2, vN 0, vN 0, vN 1], [vN 3, vN 0, vN 1, vN 0]], 0, 0, 0, 0, 0, 0, [], [], 0, 0, 0, 0, 0⟩
def bA0 : SesD := ⟨3, 0, 3, [[vN 2, vN 0, vN 0, vN 0], [vN 1, vN 0, vN 0, vN 0], [vN 3, vN 0, vN 0, vN 0]], 0, 0, 0, 0, 0, 0, [], [], 0, 0, 0, 0, 0⟩
def bH0 : Mh := ⟨[[vN 5, vN 0, vN 0], [vN 6, vN 0, vN 0]], [[vN 7, vN 0, vN 0]], [], [[vN 9, vN 0, vN 0]], 0, 0, 0, 0, 9, []⟩
def bA1 : SesD := ⟨3, 0, 3, [[vN 2, vN 0, vN 0, vN 0], [vN 1, vN 0, vN 0, vN 0], [vN 3, vN 0, vN 0, vN 0]], 0, 1, 5, 0, 0, 0, [[vN 0, vN 0, vN 0]], [], 0, 0, 0, 0, 0⟩
def bH1 : Mh := ⟨[[vN 5, vN 0, vN 0], [vN 6, vN 0, vN 0]], [[vN 7, vN 0, vN 0]], [], [[vN 9, vN 0, vN 0]], 0, 0, 0, 0, 9, [[vN 3, vN 0, vN 0, vN 5]]⟩
def bA2 : SesD := ⟨3, 0, 3, [[vN 2, vN 0, vN 0, vN 0], [vN 1, vN 0, vN 0, vN 0], [vN 3, vN 0, vN 0, vN 0]], 0, 2, 10, 0, 0, 0, [[vN 0, vN 0, vN 0]], [], 0, 0, 0, 0, 0⟩
def bH2 : Mh := ⟨[[vN 5, vN 0, vN 0], [vN 6, vN 0, vN 0]], [[vN 7, vN 0, vN 0]], [], [[vN 9, vN 0, vN 0]], 0, 0, 0, 0, 9, [[vN 3, vN 0, vN 0, vN 5]]⟩
def bA3 : SesD := ⟨3, 0, 3, [[vN 2, vN 0, vN 0, vN 0], [vN 1, vN 0, vN 0, vN 0], [vN 3, vN 0, vN 0, vN 0]], 0, 3, 10, 0, 0, 0, [[vN 0, vN 0, vN 0]], [[vN 0, vN 0, vN 10]], 0, 0, 0, 0, 0⟩
def bH3 : Mh := ⟨[[vN 5, vN 0, vN 0], [vN 6, vN 0, vN 0]], [[vN 7, vN 0, vN 0]], [], [[vN 9, vN 0, vN 0]], 0, 0, 0, 0, 9, [[vN 3, vN 0, vN 0, vN 5], [vN 3, vN 0, vN 1, vN 10]]⟩
def bA4 : SesD := ⟨3, 0, 3, [[vN 2, vN 0, vN 0, vN 0], [vN 1, vN 0, vN 0, vN 0], [vN 3, vN 0, vN 0, vN 0]], 1, 3, 10, 0, 0, 0, [[vN 0, vN 0, vN 0]], [[vN 0, vN 0, vN 10]], 0, 0, 0, 0, 0⟩
def bH4 : Mh := ⟨[[vN 5, vN 0, vN 0], [vN 6, vN 0, vN 0]], [[vN 7, vN 0, vN 0]], [], [[vN 9, vN 0, vN 0]], 0, 0, 0, 0, 9, [[vN 3, vN 0, vN 0, vN 5], [vN 3, vN 0, vN 1, vN 10]]⟩
theorem eSt1 (K : DV → Prop) : (askH Tryz.prog (hkM spC [] [(58, iRCopF), (128, jRun)]) Tryz.f79 [.agg [D.s 0 3 [[D.v (Value.int IntKind.i64 5), D.v (Value.int IntKind.i64 0), D.v (Value.int IntKind.i64 0)], [D.v (Value.int IntKind.i64 6), D.v (Value.int IntKind.i64 0), D.v (Value.int IntKind.i64 0)]] [], D.s 0 3 [[D.v (Value.int IntKind.i64 7), D.v (Value.int IntKind.i64 0), D.v (Value.int IntKind.i64 0)]] [], D.s 0 3 [] [], D.s 0 3 [[D.v (Value.int IntKind.i64 9), D.v (Value.int IntKind.i64 0), D.v (Value.int IntKind.i64 0)]] [], D.v (Value.int IntKind.i64 0), D.v (Value.int IntKind.i64 0), D.v (Value.int IntKind.i64 0), D.v (Value.int IntKind.i64 0), D.v (Value.int IntKind.i64 9), D.s 0 17 [[D.v (Value.int IntKind.i64 3), D.v (Value.int IntKind.i64 0), D.v (Value.int IntKind.i64 3), D.s 0 4 [[D.v (Value.int IntKind.i64 2), D.v (Value.int IntKind.i64 0), D.v (Value.int IntKind.i64 0), D.v (Value.int IntKind.i64 0)], [D.v (Value.int IntKind.i64 1), D.v (Value.int IntKind.i64 0), D.v (Value.int IntKind.i64 0), D.v (Value.int IntKind.i64 0)], [D.v (Value.int IntKind.i64 3), D.v (Value.int IntKind.i64 0), D.v (Value.int IntKind.i64 0), D.v (Value.int IntKind.i64 0)]] [], D.v (Value.int IntKind.i64 0), D.v (Value.int IntKind.i64 0), D.v (Value.int IntKind.i64 0), D.v (Value.int IntKind.i64 0), D.v (Value.int IntKind.i64 0), D.v (Value.int IntKind.i64 0), D.s 0 3 [] [], D.s 0 3 [] [], D.v (Value.int IntKind.i64 0), D.v (Value.int IntKind.i64 0), D.v (Value.int IntKind.i64 0), D.v (Value.int IntKind.i64 0), D.v (Value.int IntKind.i64 0)], [D.v (Value.int IntKind.i64 5), D.v (Value.int IntKind.i64 1), D.v (Value.int IntKind.i64 1), D.s 0 4 [[D.v (Value.int IntKind.i64 2), D.v (Value.int IntKind.i64 0), D.v (Value.int IntKind.i64 0), D.v (Value.int IntKind.i64 1)], [D.v (Value.int IntKind.i64 3), D.v (Value.int IntKind.i64 0), D.v (Value.int IntKind.i64 1), D.v (Value.int IntKind.i64 0)]] [], D.v (Value.int IntKind.i64 0), D.v (Value.int IntKind.i64 0), D.v (Value.int IntKind.i64 0), D.v (Value.int IntKind.i64 0), D.v (Value.int IntKind.i64 0), D.v (Value.int IntKind.i64 0), D.s 0 3 [] [], D.s 0 3 [] [], D.v (Value.int IntKind.i64 0), D.v (Value.int IntKind.i64 0), D.v (Value.int IntKind.i64 0), D.v (Value.int IntKind.i64 0), D.v (Value.int IntKind.i64 0)]] [], D.s 0 4 [] []], I 0] K) = (K (DV.tup [DV.agg (macLR (1) ⟨[[vN (5), vN (0), vN (0)], [vN (6), vN (0), vN (0)]], [[vN (7), vN (0), vN (0)]], [], [[vN (9), vN (0), vN (0)]], (0), (0), (0), (0), (9), [[vN (3), vN (0), vN (0), vN (5)]]⟩ [(sesL (1) ⟨(3), (0), (3), [[vN (2), vN (0), vN (0), vN (0)], [vN (1), vN (0), vN (0), vN (0)], [vN (3), vN (0), vN (0), vN (0)]], (0), (1), (5), (0), (0), (0), [[vN (0), vN (0), vN (0)]], [], (0), (0), (0), (0), (0)⟩), (sesL (1) ⟨(5), (1), (1), [[vN (2), vN (0), vN (0), vN (1)], [vN (3), vN (0), vN (1), vN (0)]], (0), (0), (0), (0), (0), (0), [], [], (0), (0), (0), (0), (0)⟩)]), I (0)])) := by kernel_rfl
theorem cSt1 : CT Tryz.prog 79 [.agg (macL 0 bH0 [bA0, bB]), I 0] (macR bH1 [bA1, bB] 0) := by
  have e : macL 0 bH0 [bA0, bB] = [D.s 0 3 [[D.v (Value.int IntKind.i64 5), D.v (Value.int IntKind.i64 0), D.v (Value.int IntKind.i64 0)], [D.v (Value.int IntKind.i64 6), D.v (Value.int IntKind.i64 0), D.v (Value.int IntKind.i64 0)]] [], D.s 0 3 [[D.v (Value.int IntKind.i64 7), D.v (Value.int IntKind.i64 0), D.v (Value.int IntKind.i64 0)]] [], D.s 0 3 [] [], D.s 0 3 [[D.v (Value.int IntKind.i64 9), D.v (Value.int IntKind.i64 0), D.v (Value.int IntKind.i64 0)]] [], D.v (Value.int IntKind.i64 0), D.v (Value.int IntKind.i64 0), D.v (Value.int IntKind.i64 0), D.v (Value.int IntKind.i64 0), D.v (Value.int IntKind.i64 9), D.s 0 17 [[D.v (Value.int IntKind.i64 3), D.v (Value.int IntKind.i64 0), D.v (Value.int IntKind.i64 3), D.s 0 4 [[D.v (Value.int IntKind.i64 2), D.v (Value.int IntKind.i64 0), D.v (Value.int IntKind.i64 0), D.v (Value.int IntKind.i64 0)], [D.v (Value.int IntKind.i64 1), D.v (Value.int IntKind.i64 0), D.v (Value.int IntKind.i64 0), D.v (Value.int IntKind.i64 0)], [D.v (Value.int IntKind.i64 3), D.v (Value.int IntKind.i64 0), D.v (Value.int IntKind.i64 0), D.v (Value.int IntKind.i64 0)]] [], D.v (Value.int IntKind.i64 0), D.v (Value.int IntKind.i64 0), D.v (Value.int IntKind.i64 0), D.v (Value.int IntKind.i64 0), D.v (Value.int IntKind.i64 0), D.v (Value.int IntKind.i64 0), D.s 0 3 [] [], D.s 0 3 [] [], D.v (Value.int IntKind.i64 0), D.v (Value.int IntKind.i64 0), D.v (Value.int IntKind.i64 0), D.v (Value.int IntKind.i64 0), D.v (Value.int IntKind.i64 0)], [D.v (Value.int IntKind.i64 5), D.v (Value.int IntKind.i64 1), D.v (Value.int IntKind.i64 1), D.s 0 4 [[D.v (Value.int IntKind.i64 2), D.v (Value.int IntKind.i64 0), D.v (Value.int IntKind.i64 0), D.v (Value.int IntKind.i64 1)], [D.v (Value.int IntKind.i64 3), D.v (Value.int IntKind.i64 0), D.v (Value.int IntKind.i64 1), D.v (Value.int IntKind.i64 0)]] [], D.v (Value.int IntKind.i64 0), D.v (Value.int IntKind.i64 0), D.v (Value.int IntKind.i64 0), D.v (Value.int IntKind.i64 0), D.v (Value.int IntKind.i64 0), D.v (Value.int IntKind.i64 0), D.s 0 3 [] [], D.s 0 3 [] [], D.v (Value.int IntKind.i64 0), D.v (Value.int IntKind.i64 0), D.v (Value.int IntKind.i64 0), D.v (Value.int IntKind.i64 0), D.v (Value.int IntKind.i64 0)]] [], D.s 0 4 [] []] := rfl
  rw [e]
  refine ct_m spC_ok .nil (.cons iRCopF_ok (.cons jRun_ok .nil)) mixed Tryz.func79 rfl rfl rfl ?_
  rw [eSt1]
  exact ⟨rfl⟩
theorem eSt2 (K : DV → Prop) : (askH Tryz.prog (hkM spC [] [(58, iRCopF), (128, jRun)]) Tryz.f79 [.agg [D.s 0 3 [[D.v (Value.int IntKind.i64 5), D.v (Value.int IntKind.i64 0), D.v (Value.int IntKind.i64 0)], [D.v (Value.int IntKind.i64 6), D.v (Value.int IntKind.i64 0), D.v (Value.int IntKind.i64 0)]] [], D.s 0 3 [[D.v (Value.int IntKind.i64 7), D.v (Value.int IntKind.i64 0), D.v (Value.int IntKind.i64 0)]] [], D.s 0 3 [] [], D.s 0 3 [[D.v (Value.int IntKind.i64 9), D.v (Value.int IntKind.i64 0), D.v (Value.int IntKind.i64 0)]] [], D.v (Value.int IntKind.i64 0), D.v (Value.int IntKind.i64 0), D.v (Value.int IntKind.i64 0), D.v (Value.int IntKind.i64 0), D.v (Value.int IntKind.i64 9), D.s 0 17 [[D.v (Value.int IntKind.i64 3), D.v (Value.int IntKind.i64 0), D.v (Value.int IntKind.i64 3), D.s 0 4 [[D.v (Value.int IntKind.i64 2), D.v (Value.int IntKind.i64 0), D.v (Value.int IntKind.i64 0), D.v (Value.int IntKind.i64 0)], [D.v (Value.int IntKind.i64 1), D.v (Value.int IntKind.i64 0), D.v (Value.int IntKind.i64 0), D.v (Value.int IntKind.i64 0)], [D.v (Value.int IntKind.i64 3), D.v (Value.int IntKind.i64 0), D.v (Value.int IntKind.i64 0), D.v (Value.int IntKind.i64 0)]] [], D.v (Value.int IntKind.i64 0), D.v (Value.int IntKind.i64 1), D.v (Value.int IntKind.i64 5), D.v (Value.int IntKind.i64 0), D.v (Value.int IntKind.i64 0), D.v (Value.int IntKind.i64 0), D.s 0 3 [[D.v (Value.int IntKind.i64 0), D.v (Value.int IntKind.i64 0), D.v (Value.int IntKind.i64 0)]] [], D.s 0 3 [] [], D.v (Value.int IntKind.i64 0), D.v (Value.int IntKind.i64 0), D.v (Value.int IntKind.i64 0), D.v (Value.int IntKind.i64 0), D.v (Value.int IntKind.i64 0)], [D.v (Value.int IntKind.i64 5), D.v (Value.int IntKind.i64 1), D.v (Value.int IntKind.i64 1), D.s 0 4 [[D.v (Value.int IntKind.i64 2), D.v (Value.int IntKind.i64 0), D.v (Value.int IntKind.i64 0), D.v (Value.int IntKind.i64 1)], [D.v (Value.int IntKind.i64 3), D.v (Value.int IntKind.i64 0), D.v (Value.int IntKind.i64 1), D.v (Value.int IntKind.i64 0)]] [], D.v (Value.int IntKind.i64 0), D.v (Value.int IntKind.i64 0), D.v (Value.int IntKind.i64 0), D.v (Value.int IntKind.i64 0), D.v (Value.int IntKind.i64 0), D.v (Value.int IntKind.i64 0), D.s 0 3 [] [], D.s 0 3 [] [], D.v (Value.int IntKind.i64 0), D.v (Value.int IntKind.i64 0), D.v (Value.int IntKind.i64 0), D.v (Value.int IntKind.i64 0), D.v (Value.int IntKind.i64 0)]] [], D.s 0 4 [[D.v (Value.int IntKind.i64 3), D.v (Value.int IntKind.i64 0), D.v (Value.int IntKind.i64 0), D.v (Value.int IntKind.i64 5)]] []], I 0] K) = (K (DV.tup [DV.agg (macLR (1) ⟨[[vN (5), vN (0), vN (0)], [vN (6), vN (0), vN (0)]], [[vN (7), vN (0), vN (0)]], [], [[vN (9), vN (0), vN (0)]], (0), (0), (0), (0), (9), [[vN (3), vN (0), vN (0), vN (5)]]⟩ [(sesL (1) ⟨(3), (0), (3), [[vN (2), vN (0), vN (0), vN (0)], [vN (1), vN (0), vN (0), vN (0)], [vN (3), vN (0), vN (0), vN (0)]], (0), (2), (10), (0), (0), (0), [[vN (0), vN (0), vN (0)]], [], (0), (0), (0), (0), (0)⟩), (sesL (1) ⟨(5), (1), (1), [[vN (2), vN (0), vN (0), vN (1)], [vN (3), vN (0), vN (1), vN (0)]], (0), (0), (0), (0), (0), (0), [], [], (0), (0), (0), (0), (0)⟩)]), I (0)])) := by kernel_rfl
theorem cSt2 : CT Tryz.prog 79 [.agg (macL 0 bH1 [bA1, bB]), I 0] (macR bH2 [bA2, bB] 0) := by
  have e : macL 0 bH1 [bA1, bB] = [D.s 0 3 [[D.v (Value.int IntKind.i64 5), D.v (Value.int IntKind.i64 0), D.v (Value.int IntKind.i64 0)], [D.v (Value.int IntKind.i64 6), D.v (Value.int IntKind.i64 0), D.v (Value.int IntKind.i64 0)]] [], D.s 0 3 [[D.v (Value.int IntKind.i64 7), D.v (Value.int IntKind.i64 0), D.v (Value.int IntKind.i64 0)]] [], D.s 0 3 [] [], D.s 0 3 [[D.v (Value.int IntKind.i64 9), D.v (Value.int IntKind.i64 0), D.v (Value.int IntKind.i64 0)]] [], D.v (Value.int IntKind.i64 0), D.v (Value.int IntKind.i64 0), D.v (Value.int IntKind.i64 0), D.v (Value.int IntKind.i64 0), D.v (Value.int IntKind.i64 9), D.s 0 17 [[D.v (Value.int IntKind.i64 3), D.v (Value.int IntKind.i64 0), D.v (Value.int IntKind.i64 3), D.s 0 4 [[D.v (Value.int IntKind.i64 2), D.v (Value.int IntKind.i64 0), D.v (Value.int IntKind.i64 0), D.v (Value.int IntKind.i64 0)], [D.v (Value.int IntKind.i64 1), D.v (Value.int IntKind.i64 0), D.v (Value.int IntKind.i64 0), D.v (Value.int IntKind.i64 0)], [D.v (Value.int IntKind.i64 3), D.v (Value.int IntKind.i64 0), D.v (Value.int IntKind.i64 0), D.v (Value.int IntKind.i64 0)]] [], D.v (Value.int IntKind.i64 0), D.v (Value.int IntKind.i64 1), D.v (Value.int IntKind.i64 5), D.v (Value.int IntKind.i64 0), D.v (Value.int IntKind.i64 0), D.v (Value.int IntKind.i64 0), D.s 0 3 [[D.v (Value.int IntKind.i64 0), D.v (Value.int IntKind.i64 0), D.v (Value.int IntKind.i64 0)]] [], D.s 0 3 [] [], D.v (Value.int IntKind.i64 0), D.v (Value.int IntKind.i64 0), D.v (Value.int IntKind.i64 0), D.v (Value.int IntKind.i64 0), D.v (Value.int IntKind.i64 0)], [D.v (Value.int IntKind.i64 5), D.v (Value.int IntKind.i64 1), D.v (Value.int IntKind.i64 1), D.s 0 4 [[D.v (Value.int IntKind.i64 2), D.v (Value.int IntKind.i64 0), D.v (Value.int IntKind.i64 0), D.v (Value.int IntKind.i64 1)], [D.v (Value.int IntKind.i64 3), D.v (Value.int IntKind.i64 0), D.v (Value.int IntKind.i64 1), D.v (Value.int IntKind.i64 0)]] [], D.v (Value.int IntKind.i64 0), D.v (Value.int IntKind.i64 0), D.v (Value.int IntKind.i64 0), D.v (Value.int IntKind.i64 0), D.v (Value.int IntKind.i64 0), D.v (Value.int IntKind.i64 0), D.s 0 3 [] [], D.s 0 3 [] [], D.v (Value.int IntKind.i64 0), D.v (Value.int IntKind.i64 0), D.v (Value.int IntKind.i64 0), D.v (Value.int IntKind.i64 0), D.v (Value.int IntKind.i64 0)]] [], D.s 0 4 [[D.v (Value.int IntKind.i64 3), D.v (Value.int IntKind.i64 0), D.v (Value.int IntKind.i64 0), D.v (Value.int IntKind.i64 5)]] []] := rfl
  rw [e]
  refine ct_m spC_ok .nil (.cons iRCopF_ok (.cons jRun_ok .nil)) mixed Tryz.func79 rfl rfl rfl ?_
  rw [eSt2]
  exact ⟨rfl⟩
theorem eSt3 (K : DV → Prop) : (askH Tryz.prog (hkM spC [] [(58, iRCopF), (128, jRun)]) Tryz.f79 [.agg [D.s 0 3 [[D.v (Value.int IntKind.i64 5), D.v (Value.int IntKind.i64 0), D.v (Value.int IntKind.i64 0)], [D.v (Value.int IntKind.i64 6), D.v (Value.int IntKind.i64 0), D.v (Value.int IntKind.i64 0)]] [], D.s 0 3 [[D.v (Value.int IntKind.i64 7), D.v (Value.int IntKind.i64 0), D.v (Value.int IntKind.i64 0)]] [], D.s 0 3 [] [], D.s 0 3 [[D.v (Value.int IntKind.i64 9), D.v (Value.int IntKind.i64 0), D.v (Value.int IntKind.i64 0)]] [], D.v (Value.int IntKind.i64 0), D.v (Value.int IntKind.i64 0), D.v (Value.int IntKind.i64 0), D.v (Value.int IntKind.i64 0), D.v (Value.int IntKind.i64 9), D.s 0 17 [[D.v (Value.int IntKind.i64 3), D.v (Value.int IntKind.i64 0), D.v (Value.int IntKind.i64 3), D.s 0 4 [[D.v (Value.int IntKind.i64 2), D.v (Value.int IntKind.i64 0), D.v (Value.int IntKind.i64 0), D.v (Value.int IntKind.i64 0)], [D.v (Value.int IntKind.i64 1), D.v (Value.int IntKind.i64 0), D.v (Value.int IntKind.i64 0), D.v (Value.int IntKind.i64 0)], [D.v (Value.int IntKind.i64 3), D.v (Value.int IntKind.i64 0), D.v (Value.int IntKind.i64 0), D.v (Value.int IntKind.i64 0)]] [], D.v (Value.int IntKind.i64 0), D.v (Value.int IntKind.i64 2), D.v (Value.int IntKind.i64 10), D.v (Value.int IntKind.i64 0), D.v (Value.int IntKind.i64 0), D.v (Value.int IntKind.i64 0), D.s 0 3 [[D.v (Value.int IntKind.i64 0), D.v (Value.int IntKind.i64 0), D.v (Value.int IntKind.i64 0)]] [], D.s 0 3 [] [], D.v (Value.int IntKind.i64 0), D.v (Value.int IntKind.i64 0), D.v (Value.int IntKind.i64 0), D.v (Value.int IntKind.i64 0), D.v (Value.int IntKind.i64 0)], [D.v (Value.int IntKind.i64 5), D.v (Value.int IntKind.i64 1), D.v (Value.int IntKind.i64 1), D.s 0 4 [[D.v (Value.int IntKind.i64 2), D.v (Value.int IntKind.i64 0), D.v (Value.int IntKind.i64 0), D.v (Value.int IntKind.i64 1)], [D.v (Value.int IntKind.i64 3), D.v (Value.int IntKind.i64 0), D.v (Value.int IntKind.i64 1), D.v (Value.int IntKind.i64 0)]] [], D.v (Value.int IntKind.i64 0), D.v (Value.int IntKind.i64 0), D.v (Value.int IntKind.i64 0), D.v (Value.int IntKind.i64 0), D.v (Value.int IntKind.i64 0), D.v (Value.int IntKind.i64 0), D.s 0 3 [] [], D.s 0 3 [] [], D.v (Value.int IntKind.i64 0), D.v (Value.int IntKind.i64 0), D.v (Value.int IntKind.i64 0), D.v (Value.int IntKind.i64 0), D.v (Value.int IntKind.i64 0)]] [], D.s 0 4 [[D.v (Value.int IntKind.i64 3), D.v (Value.int IntKind.i64 0), D.v (Value.int IntKind.i64 0), D.v (Value.int IntKind.i64 5)]] []], I 0] K) = (K (DV.tup [DV.agg (macLR (1) ⟨[[vN (5), vN (0), vN (0)], [vN (6), vN (0), vN (0)]], [[vN (7), vN (0), vN (0)]], [], [[vN (9), vN (0), vN (0)]], (0), (0), (0), (0), (9), [[vN (3), vN (0), vN (0), vN (5)], [vN (3), vN (0), vN (1), vN (10)]]⟩ [(sesL (1) ⟨(3), (0), (3), [[vN (2), vN (0), vN (0), vN (0)], [vN (1), vN (0), vN (0), vN (0)], [vN (3), vN (0), vN (0), vN (0)]], (0), (3), (10), (0), (0), (0), [[vN (0), vN (0), vN (0)]], [[vN (0), vN (0), vN (10)]], (0), (0), (0), (0), (0)⟩), (sesL (1) ⟨(5), (1), (1), [[vN (2), vN (0), vN (0), vN (1)], [vN (3), vN (0), vN (1), vN (0)]], (0), (0), (0), (0), (0), (0), [], [], (0), (0), (0), (0), (0)⟩)]), I (0)])) := by kernel_rfl
theorem cSt3 : CT Tryz.prog 79 [.agg (macL 0 bH2 [bA2, bB]), I 0] (macR bH3 [bA3, bB] 0) := by
  have e : macL 0 bH2 [bA2, bB] = [D.s 0 3 [[D.v (Value.int IntKind.i64 5), D.v (Value.int IntKind.i64 0), D.v (Value.int IntKind.i64 0)], [D.v (Value.int IntKind.i64 6), D.v (Value.int IntKind.i64 0), D.v (Value.int IntKind.i64 0)]] [], D.s 0 3 [[D.v (Value.int IntKind.i64 7), D.v (Value.int IntKind.i64 0), D.v (Value.int IntKind.i64 0)]] [], D.s 0 3 [] [], D.s 0 3 [[D.v (Value.int IntKind.i64 9), D.v (Value.int IntKind.i64 0), D.v (Value.int IntKind.i64 0)]] [], D.v (Value.int IntKind.i64 0), D.v (Value.int IntKind.i64 0), D.v (Value.int IntKind.i64 0), D.v (Value.int IntKind.i64 0), D.v (Value.int IntKind.i64 9), D.s 0 17 [[D.v (Value.int IntKind.i64 3), D.v (Value.int IntKind.i64 0), D.v (Value.int IntKind.i64 3), D.s 0 4 [[D.v (Value.int IntKind.i64 2), D.v (Value.int IntKind.i64 0), D.v (Value.int IntKind.i64 0), D.v (Value.int IntKind.i64 0)], [D.v (Value.int IntKind.i64 1), D.v (Value.int IntKind.i64 0), D.v (Value.int IntKind.i64 0), D.v (Value.int IntKind.i64 0)], [D.v (Value.int IntKind.i64 3), D.v (Value.int IntKind.i64 0), D.v (Value.int IntKind.i64 0), D.v (Value.int IntKind.i64 0)]] [], D.v (Value.int IntKind.i64 0), D.v (Value.int IntKind.i64 2), D.v (Value.int IntKind.i64 10), D.v (Value.int IntKind.i64 0), D.v (Value.int IntKind.i64 0), D.v (Value.int IntKind.i64 0), D.s 0 3 [[D.v (Value.int IntKind.i64 0), D.v (Value.int IntKind.i64 0), D.v (Value.int IntKind.i64 0)]] [], D.s 0 3 [] [], D.v (Value.int IntKind.i64 0), D.v (Value.int IntKind.i64 0), D.v (Value.int IntKind.i64 0), D.v (Value.int IntKind.i64 0), D.v (Value.int IntKind.i64 0)], [D.v (Value.int IntKind.i64 5), D.v (Value.int IntKind.i64 1), D.v (Value.int IntKind.i64 1), D.s 0 4 [[D.v (Value.int IntKind.i64 2), D.v (Value.int IntKind.i64 0), D.v (Value.int IntKind.i64 0), D.v (Value.int IntKind.i64 1)], [D.v (Value.int IntKind.i64 3), D.v (Value.int IntKind.i64 0), D.v (Value.int IntKind.i64 1), D.v (Value.int IntKind.i64 0)]] [], D.v (Value.int IntKind.i64 0), D.v (Value.int IntKind.i64 0), D.v (Value.int IntKind.i64 0), D.v (Value.int IntKind.i64 0), D.v (Value.int IntKind.i64 0), D.v (Value.int IntKind.i64 0), D.s 0 3 [] [], D.s 0 3 [] [], D.v (Value.int IntKind.i64 0), D.v (Value.int IntKind.i64 0), D.v (Value.int IntKind.i64 0), D.v (Value.int IntKind.i64 0), D.v (Value.int IntKind.i64 0)]] [], D.s 0 4 [[D.v (Value.int IntKind.i64 3), D.v (Value.int IntKind.i64 0), D.v (Value.int IntKind.i64 0), D.v (Value.int IntKind.i64 5)]] []] := rfl
  rw [e]
  refine ct_m spC_ok .nil (.cons iRCopF_ok (.cons jRun_ok .nil)) mixed Tryz.func79 rfl rfl rfl ?_
  rw [eSt3]
  exact ⟨rfl⟩
theorem eSt4 (K : DV → Prop) : (askH Tryz.prog (hkM spC [] [(58, iRCopF), (128, jRun)]) Tryz.f79 [.agg [D.s 0 3 [[D.v (Value.int IntKind.i64 5), D.v (Value.int IntKind.i64 0), D.v (Value.int IntKind.i64 0)], [D.v (Value.int IntKind.i64 6), D.v (Value.int IntKind.i64 0), D.v (Value.int IntKind.i64 0)]] [], D.s 0 3 [[D.v (Value.int IntKind.i64 7), D.v (Value.int IntKind.i64 0), D.v (Value.int IntKind.i64 0)]] [], D.s 0 3 [] [], D.s 0 3 [[D.v (Value.int IntKind.i64 9), D.v (Value.int IntKind.i64 0), D.v (Value.int IntKind.i64 0)]] [], D.v (Value.int IntKind.i64 0), D.v (Value.int IntKind.i64 0), D.v (Value.int IntKind.i64 0), D.v (Value.int IntKind.i64 0), D.v (Value.int IntKind.i64 9), D.s 0 17 [[D.v (Value.int IntKind.i64 3), D.v (Value.int IntKind.i64 0), D.v (Value.int IntKind.i64 3), D.s 0 4 [[D.v (Value.int IntKind.i64 2), D.v (Value.int IntKind.i64 0), D.v (Value.int IntKind.i64 0), D.v (Value.int IntKind.i64 0)], [D.v (Value.int IntKind.i64 1), D.v (Value.int IntKind.i64 0), D.v (Value.int IntKind.i64 0), D.v (Value.int IntKind.i64 0)], [D.v (Value.int IntKind.i64 3), D.v (Value.int IntKind.i64 0), D.v (Value.int IntKind.i64 0), D.v (Value.int IntKind.i64 0)]] [], D.v (Value.int IntKind.i64 0), D.v (Value.int IntKind.i64 3), D.v (Value.int IntKind.i64 10), D.v (Value.int IntKind.i64 0), D.v (Value.int IntKind.i64 0), D.v (Value.int IntKind.i64 0), D.s 0 3 [[D.v (Value.int IntKind.i64 0), D.v (Value.int IntKind.i64 0), D.v (Value.int IntKind.i64 0)]] [], D.s 0 3 [[D.v (Value.int IntKind.i64 0), D.v (Value.int IntKind.i64 0), D.v (Value.int IntKind.i64 10)]] [], D.v (Value.int IntKind.i64 0), D.v (Value.int IntKind.i64 0), D.v (Value.int IntKind.i64 0), D.v (Value.int IntKind.i64 0), D.v (Value.int IntKind.i64 0)], [D.v (Value.int IntKind.i64 5), D.v (Value.int IntKind.i64 1), D.v (Value.int IntKind.i64 1), D.s 0 4 [[D.v (Value.int IntKind.i64 2), D.v (Value.int IntKind.i64 0), D.v (Value.int IntKind.i64 0), D.v (Value.int IntKind.i64 1)], [D.v (Value.int IntKind.i64 3), D.v (Value.int IntKind.i64 0), D.v (Value.int IntKind.i64 1), D.v (Value.int IntKind.i64 0)]] [], D.v (Value.int IntKind.i64 0), D.v (Value.int IntKind.i64 0), D.v (Value.int IntKind.i64 0), D.v (Value.int IntKind.i64 0), D.v (Value.int IntKind.i64 0), D.v (Value.int IntKind.i64 0), D.s 0 3 [] [], D.s 0 3 [] [], D.v (Value.int IntKind.i64 0), D.v (Value.int IntKind.i64 0), D.v (Value.int IntKind.i64 0), D.v (Value.int IntKind.i64 0), D.v (Value.int IntKind.i64 0)]] [], D.s 0 4 [[D.v (Value.int IntKind.i64 3), D.v (Value.int IntKind.i64 0), D.v (Value.int IntKind.i64 0), D.v (Value.int IntKind.i64 5)], [D.v (Value.int IntKind.i64 3), D.v (Value.int IntKind.i64 0), D.v (Value.int IntKind.i64 1), D.v (Value.int IntKind.i64 10)]] []], I 0] K) = (K (DV.tup [DV.agg (macLR (1) ⟨[[vN (5), vN (0), vN (0)], [vN (6), vN (0), vN (0)]], [[vN (7), vN (0), vN (0)]], [], [[vN (9), vN (0), vN (0)]], (0), (0), (0), (0), (9), [[vN (3), vN (0), vN (0), vN (5)], [vN (3), vN (0), vN (1), vN (10)]]⟩ [(sesL (1) ⟨(3), (0), (3), [[vN (2), vN (0), vN (0), vN (0)], [vN (1), vN (0), vN (0), vN (0)], [vN (3), vN (0), vN (0), vN (0)]], (1), (3), (10), (0), (0), (0), [[vN (0), vN (0), vN (0)]], [[vN (0), vN (0), vN (10)]], (0), (0), (0), (0), (0)⟩), (sesL (1) ⟨(5), (1), (1), [[vN (2), vN (0), vN (0), vN (1)], [vN (3), vN (0), vN (1), vN (0)]], (0), (0), (0), (0), (0), (0), [], [], (0), (0), (0), (0), (0)⟩)]), I (0)])) := by kernel_rfl
theorem cSt4 : CT Tryz.prog 79 [.agg (macL 0 bH3 [bA3, bB]), I 0] (macR bH4 [bA4, bB] 0) := by
  have e : macL 0 bH3 [bA3, bB] = [D.s 0 3 [[D.v (Value.int IntKind.i64 5), D.v (Value.int IntKind.i64 0), D.v (Value.int IntKind.i64 0)], [D.v (Value.int IntKind.i64 6), D.v (Value.int IntKind.i64 0), D.v (Value.int IntKind.i64 0)]] [], D.s 0 3 [[D.v (Value.int IntKind.i64 7), D.v (Value.int IntKind.i64 0), D.v (Value.int IntKind.i64 0)]] [], D.s 0 3 [] [], D.s 0 3 [[D.v (Value.int IntKind.i64 9), D.v (Value.int IntKind.i64 0), D.v (Value.int IntKind.i64 0)]] [], D.v (Value.int IntKind.i64 0), D.v (Value.int IntKind.i64 0), D.v (Value.int IntKind.i64 0), D.v (Value.int IntKind.i64 0), D.v (Value.int IntKind.i64 9), D.s 0 17 [[D.v (Value.int IntKind.i64 3), D.v (Value.int IntKind.i64 0), D.v (Value.int IntKind.i64 3), D.s 0 4 [[D.v (Value.int IntKind.i64 2), D.v (Value.int IntKind.i64 0), D.v (Value.int IntKind.i64 0), D.v (Value.int IntKind.i64 0)], [D.v (Value.int IntKind.i64 1), D.v (Value.int IntKind.i64 0), D.v (Value.int IntKind.i64 0), D.v (Value.int IntKind.i64 0)], [D.v (Value.int IntKind.i64 3), D.v (Value.int IntKind.i64 0), D.v (Value.int IntKind.i64 0), D.v (Value.int IntKind.i64 0)]] [], D.v (Value.int IntKind.i64 0), D.v (Value.int IntKind.i64 3), D.v (Value.int IntKind.i64 10), D.v (Value.int IntKind.i64 0), D.v (Value.int IntKind.i64 0), D.v (Value.int IntKind.i64 0), D.s 0 3 [[D.v (Value.int IntKind.i64 0), D.v (Value.int IntKind.i64 0), D.v (Value.int IntKind.i64 0)]] [], D.s 0 3 [[D.v (Value.int IntKind.i64 0), D.v (Value.int IntKind.i64 0), D.v (Value.int IntKind.i64 10)]] [], D.v (Value.int IntKind.i64 0), D.v (Value.int IntKind.i64 0), D.v (Value.int IntKind.i64 0), D.v (Value.int IntKind.i64 0), D.v (Value.int IntKind.i64 0)], [D.v (Value.int IntKind.i64 5), D.v (Value.int IntKind.i64 1), D.v (Value.int IntKind.i64 1), D.s 0 4 [[D.v (Value.int IntKind.i64 2), D.v (Value.int IntKind.i64 0), D.v (Value.int IntKind.i64 0), D.v (Value.int IntKind.i64 1)], [D.v (Value.int IntKind.i64 3), D.v (Value.int IntKind.i64 0), D.v (Value.int IntKind.i64 1), D.v (Value.int IntKind.i64 0)]] [], D.v (Value.int IntKind.i64 0), D.v (Value.int IntKind.i64 0), D.v (Value.int IntKind.i64 0), D.v (Value.int IntKind.i64 0), D.v (Value.int IntKind.i64 0), D.v (Value.int IntKind.i64 0), D.s 0 3 [] [], D.s 0 3 [] [], D.v (Value.int IntKind.i64 0), D.v (Value.int IntKind.i64 0), D.v (Value.int IntKind.i64 0), D.v (Value.int IntKind.i64 0), D.v (Value.int IntKind.i64 0)]] [], D.s 0 4 [[D.v (Value.int IntKind.i64 3), D.v (Value.int IntKind.i64 0), D.v (Value.int IntKind.i64 0), D.v (Value.int IntKind.i64 5)], [D.v (Value.int IntKind.i64 3), D.v (Value.int IntKind.i64 0), D.v (Value.int IntKind.i64 1), D.v (Value.int IntKind.i64 10)]] []] := rfl
  rw [e]
  refine ct_m spC_ok .nil (.cons iRCopF_ok (.cons jRun_ok .nil)) mixed Tryz.func79 rfl rfl rfl ?_
  rw [eSt4]
  exact ⟨rfl⟩
theorem iRNew_ok : InlOK Tryz.prog 21 iRNew := inlM_ok (.cons oRNewL (.cons oRSNewL (.cons oRMm .nil))) .nil .nil mixed Tryz.func21 rfl (goes_of Tryz.func21 (by kernel_rfl) rfl)
theorem eBeg16 (K : DV → Prop) : (askH Tryz.prog (hkM [] [] [(21, iRNew)]) Tryz.f44 [] K) = (K (DV.agg [D.s (1) (3) [[vN (5), vN (0), vN (0)], [vN (6), vN (0), vN (0)]] [], D.s (1) (3) [[vN (7), vN (0), vN (0)]] [], D.s (1) (3) [] [], D.s (1) (3) [[vN (9), vN (0), vN (0)]] [], vN (0), vN (0), vN (0), vN (0), vN (9), D.s (1) (17) [[vN (3), vN (0), vN (3), D.s (1) (4) [[vN (2), vN (0), vN (0), vN (0)], [vN (1), vN (0), vN (0), vN (0)], [vN (3), vN (0), vN (0), vN (0)]] [], vN (0), vN (0), vN (0), vN (0), vN (0), vN (0), nilV, nilV, vN (0), vN (0), vN (0), vN (0), vN (0)], [vN (5), vN (1), vN (1), D.s (1) (4) [[vN (2), vN (0), vN (0), vN (1)], [vN (3), vN (0), vN (1), vN (0)]] [], vN (0), vN (0), vN (0), vN (0), vN (0), vN (0), nilV, nilV, vN (0), vN (0), vN (0), vN (0), vN (0)]] [], nilV])) := by kernel_rfl
theorem cBeg16 : CT Tryz.prog 44 [] (.agg (macL 1 bH0 [bA0, bB])) := by
  refine ct_mA .nil .nil (.cons iRNew_ok .nil) mixed Tryz.func44 rfl rfl rfl ?_
  rw [eBeg16]
  refine ⟨.aggO ?_⟩
  repeat (first | exact .nil | exact OL.refl _ | exact OL.nil _ | refine .cons ?_ ?_ | refine OL.rows ?_)
end

section
set_option maxHeartbeats 2000000
open Go Go.Proofs
set_option linter.unusedSimpArgs false
set_option linter.unusedVariables false
set_option maxRecDepth 100000
def sStp : Spec := fun ds Q => match ds with
  | [d, _] => macA d fun _ ss => match ss with
    | [a, _] => bif a.st == 0 then (bif a.pc == 0 then sAtD [.agg (macL 0 bH0 [bA0, bB]), I 0] (macR bH1 [bA1, bB] 0) ds Q else bif a.pc == 1 then sAtD [.agg (macL 0 bH1 [bA1, bB]), I 0] (macR bH2 [bA2, bB] 0) ds Q else bif a.pc == 2 then sAtD [.agg (macL 0 bH2 [bA2, bB]), I 0] (macR bH3 [bA3, bB] 0) ds Q else sAtD [.agg (macL 0 bH3 [bA3, bB]), I 0] (macR bH4 [bA4, bB] 0) ds Q) else False
    | _ => False
  | _ => False
theorem gStp : Goes Tryz.prog 79 := goes_of Tryz.func79 (by kernel_rfl) rfl
theorem oStp : SpecOK Tryz.prog 79 sStp := fun ds Q h => by
  unfold sStp at h; split at h
  · obtain ⟨m, ss, h, _⟩ := macA_spec h
    split at h
    · rename_i a _ _
      cases h1 : a.st == 0
      · rw [h1] at h; exact h.elim
      · rw [h1] at h
        cases h2 : a.pc == 0
        · cases h3 : a.pc == 1
          · cases h4 : a.pc == 2
            · rw [h2, h3, h4] at h; exact oAtD gStp cSt4 rfl rfl _ Q h
            · rw [h2, h3, h4] at h; exact oAtD gStp cSt3 rfl rfl _ Q h
          · rw [h2, h3] at h; exact oAtD gStp cSt2 rfl rfl _ Q h
        · rw [h2] at h; exact oAtD gStp cSt1 rfl rfl _ Q h
    · exact h.elim
  · exact h.elim
def iStp : Inl := callB Tryz.prog [34, 3] (sF sStp)
theorem iStp_ok : InlOK Tryz.prog 79 iStp := callB_ok (oF oStp)
def iBeg : Inl := callB Tryz.prog [] (sF (sAtD [] (.agg (macL 1 bH0 [bA0, bB]))))
theorem iBeg16_ok : InlOK Tryz.prog 44 iBeg := callB_ok (oF (oAtD (goes_of Tryz.func44 (by kernel_rfl) rfl) cBeg16 rfl rfl))
theorem eStd16_2 (K : DV → Prop) : (askH Tryz.prog (hkM [] [] [(44, iBeg), (79, iStp)]) Tryz.f43 [I 0, I 2] K) = (([] : List DV) = [] ∧ [DV.agg (macL (0) bH0 [bA0, bB]), I (0)] = [DV.agg (macL (0) bH0 [bA0, bB]), I (0)] ∧ [DV.agg (macL (0) bH1 [bA1, bB]), I (0)] = [DV.agg (macL (0) bH1 [bA1, bB]), I (0)] ∧ K (DV.agg [D.s (1) (3) [[D.v (Value.int IntKind.i64 (5)), D.v (Value.int IntKind.i64 (0)), D.v (Value.int IntKind.i64 (0))], [D.v (Value.int IntKind.i64 (6)), D.v (Value.int IntKind.i64 (0)), D.v (Value.int IntKind.i64 (0))]] [], D.s (1) (3) [[D.v (Value.int IntKind.i64 (7)), D.v (Value.int IntKind.i64 (0)), D.v (Value.int IntKind.i64 (0))]] [], D.s (1) (3) [] [], D.s (1) (3) [[D.v (Value.int IntKind.i64 (9)), D.v (Value.int IntKind.i64 (0)), D.v (Value.int IntKind.i64 (0))]] [], D.v (Value.int IntKind.i64 (0)), D.v (Value.int IntKind.i64 (0)), D.v (Value.int IntKind.i64 (0)), D.v (Value.int IntKind.i64 (0)), D.v (Value.int IntKind.i64 (9)), D.s (1) (17) [[D.v (Value.int IntKind.i64 (3)), D.v (Value.int IntKind.i64 (0)), D.v (Value.int IntKind.i64 (3)), D.s (1) (4) [[D.v (Value.int IntKind.i64 (2)), D.v (Value.int IntKind.i64 (0)), D.v (Value.int IntKind.i64 (0)), D.v (Value.int IntKind.i64 (0))], [D.v (Value.int IntKind.i64 (1)), D.v (Value.int IntKind.i64 (0)), D.v (Value.int IntKind.i64 (0)), D.v (Value.int IntKind.i64 (0))], [D.v (Value.int IntKind.i64 (3)), D.v (Value.int IntKind.i64 (0)), D.v (Value.int IntKind.i64 (0)), D.v (Value.int IntKind.i64 (0))]] [], D.v (Value.int IntKind.i64 (0)), D.v (Value.int IntKind.i64 (2)), D.v (Value.int IntKind.i64 (10)), D.v (Value.int IntKind.i64 (0)), D.v (Value.int IntKind.i64 (0)), D.v (Value.int IntKind.i64 (0)), D.s (1) (3) [[D.v (Value.int IntKind.i64 (0)), D.v (Value.int IntKind.i64 (0)), D.v (Value.int IntKind.i64 (0))]] [], D.s (1) (3) [] [], D.v (Value.int IntKind.i64 (0)), D.v (Value.int IntKind.i64 (0)), D.v (Value.int IntKind.i64 (0)), D.v (Value.int IntKind.i64 (0)), D.v (Value.int IntKind.i64 (0))], [D.v (Value.int IntKind.i64 (5)), D.v (Value.int IntKind.i64 (1)), D.v (Value.int IntKind.i64 (1)), D.s (1) (4) [[D.v (Value.int IntKind.i64 (2)), D.v (Value.int IntKind.i64 (0)), D.v (Value.int IntKind.i64 (0)), D.v (Value.int IntKind.i64 (1))], [D.v (Value.int IntKind.i64 (3)), D.v (Value.int IntKind.i64 (0)), D.v (Value.int IntKind.i64 (1)), D.v (Value.int IntKind.i64 (0))]] [], D.v (Value.int IntKind.i64 (0)), D.v (Value.int IntKind.i64 (0)), D.v (Value.int IntKind.i64 (0)), D.v (Value.int IntKind.i64 (0)), D.v (Value.int IntKind.i64 (0)), D.v (Value.int IntKind.i64 (0)), D.s (1) (3) [] [], D.s (1) (3) [] [], D.v (Value.int IntKind.i64 (0)), D.v (Value.int IntKind.i64 (0)), D.v (Value.int IntKind.i64 (0)), D.v (Value.int IntKind.i64 (0)), D.v (Value.int IntKind.i64 (0))]] [], D.s (1) (4) [[D.v (Value.int IntKind.i64 (3)), D.v (Value.int IntKind.i64 (0)), D.v (Value.int IntKind.i64 (0)), D.v (Value.int IntKind.i64 (5))]] []])) := by kernel_rfl
theorem cStd16_2 : CT Tryz.prog 43 [I 0, I 2] (.agg (macL 1 bH2 [bA2, bB])) := by
  refine ct_m .nil .nil (.cons iBeg16_ok (.cons iStp_ok .nil)) mixed Tryz.func43 rfl rfl rfl ?_
  rw [eStd16_2]
  exact ⟨by repeat (first | exact rfl | refine ⟨rfl, ?_⟩)⟩
end

end Vm
