/- An interpreter for Go's texts over plain data, its proof, and what it says of the functions that the law reaches. My own work. -/
import Derived.Test.YtnhodnfnlnccaaaGreatMs4
set_option linter.unusedSimpArgs false
set_option linter.unusedVariables false
set_option maxRecDepth 100000
set_option maxHeartbeats 2000000
namespace Vm
section
open Go Go.Proofs
theorem ZeM {α : Type} (l : List α) (p : α → Bool) : decide ((match l.findIdx? p with | some i => (i : Int) | none => -1) ≥ 0) = l.any p := by
  cases h : l.findIdx? p with
  | some i =>
    have : l.any p = true := by
      rw [List.findIdx?_eq_some_iff_getElem] at h
      obtain ⟨h1, h2, _⟩ := h
      exact List.any_eq_true.2 ⟨_, List.getElem_mem h1, h2⟩
    rw [this]; simp
  | none =>
    have : l.any p = false := by
      rw [List.findIdx?_eq_none_iff] at h
      rw [List.any_eq_false]; intro x hx; simpa using h x hx
    rw [this]; rfl
def thW (R0 R1 R2 R3 : List (List D)) (x y : Int) : Bool := thr R0.length R1.length R2.length R3.length x y
def ZgU (fn : Nat) (e : D) (K : List (List D) → List (List D) → List (List D) → List (List D) → Prop) : Prop := match e with
  | .f g fs cs => match Nat.beq g fn with
    | true => match fs, cs with
      | [x], [] => match x with
        | .f h gs ps => match Nat.beq h AG with
          | true => match gs, ps with
            | [], [p] => Znc p K
            | _, _ => False
          | false => False
        | _ => False
      | _, _ => False
    | false => False
  | _ => False
theorem Zck {fn : Nat} {e : D} {K : List (List D) → List (List D) → List (List D) → List (List D) → Prop} (hn : fn ≠ AG) (h : ZgU fn e K) : ∃ a b c d, K a b c d ∧ RD e (.f fn [.f AG [] [.p 0 (wsL a b c d) 0]] []) ∧ e.isOwn = false := by
  unfold ZgU at h
  split at h
  · split at h
    · rename_i hb
      have := Zaa hb; subst this
      split at h
      · split at h
        · split at h
          · rename_i hb2
            have := Zaa hb2; subst this
            split at h
            · obtain ⟨a, b, c, d, h, r, _⟩ := Zgz h
              exact ⟨a, b, c, d, h, RD.f (.cons (RD.ag (.cons r .nil)) .nil) .nil hn, rfl⟩
            · exact h.elim
          · exact h.elim
        · exact h.elim
      · exact h.elim
    · exact h.elim
  · exact h.elim
def isRW (c : Int) : Bool := bif c == 2 then true else c == 3
theorem eIWd (a b c d : Int) (K : DV → Prop) : (ask Tryz.prog [] Tryz.f162 [.agg [vi a, vi b, vi c, vi d]] K) = (bif a == 2 then K (DV.c (D.v (Value.bool true))) else K (DV.c (D.v (Value.bool (a == 3))))) := by kernel_rfl
def sIWd : Spec := fun ds Q => match ds with | [.agg [.v (.int .i64 a), .v (.int .i64 b), .v (.int .i64 c), .v (.int .i64 d)]] => Q (B (isRW a)) | _ => False
theorem oIWd : Zad Tryz.prog 162 sIWd := o_of Tryz.func162 (by kernel_rfl) rfl fun ds Q h => by
  unfold sIWd at h; split at h
  · rename_i a b c d
    refine ⟨_, Zak .nil mixed Tryz.func162 rfl rfl rfl ?_, rfl, rfl, h⟩
    rw [eIWd]; unfold isRW; cases a == 2 <;> rfl
  · exact h.elim
def noRd (R0 R1 R2 R3 : List (List D)) (r : List Int) : Bool := !thW R0 R1 R2 R3 (r.getD 0 0) (r.getD 1 0)
theorem eLR (a b c : Int) (R0 R1 R2 R3 : List (List D)) (K : DV → Prop) : (ask Tryz.prog [(157, sThr)] Tryz.f108 [.agg [.p 0 [.s 0 3 R0 [], .s 0 3 R1 [], .s 0 3 R2 [], .s 0 3 R3 []] 0], .agg [vi a, vi b, vi c]] K) = (K (DV.c (D.v (Value.bool (thr (List.length R0) (List.length R1) (List.length R2) (List.length R3) a b))))) := by kernel_rfl
def sLR : Spec := fun ds Q => match ds with | [.agg [.p 0 [.s 0 3 R0 [], .s 0 3 R1 [], .s 0 3 R2 [], .s 0 3 R3 []] 0], .agg [.v (.int .i64 a), .v (.int .i64 b), .v (.int .i64 c)]] => Q (B (!noRd R0 R1 R2 R3 [a, b, c])) | _ => False
theorem oLR : Zad Tryz.prog 108 sLR := o_of Tryz.func108 (by kernel_rfl) rfl fun ds Q h => by
  unfold sLR at h; split at h
  · rename_i R0 R1 R2 R3 a b c
    refine ⟨_, Zak ((.cons oThr .nil)) mixed Tryz.func108 rfl rfl rfl ?_, rfl, rfl, h⟩
    rw [eLR]; unfold noRd thW; simp only [List.getD_cons_zero, List.getD_cons_succ, Bool.not_not]
    try (cases isRW a <;> simp)
  · exact h.elim
theorem eLR1 (a b c : Int) (R0 R1 R2 R3 : List (List D)) (K : DV → Prop) : (ask Tryz.prog [(108, sLR)] Tryz.f156 [.agg [vi a, vi b, vi c], .c (.p 0 [.f 108 [.f 4294967295 [] [.p 0 [.s 0 3 R0 [], .s 0 3 R1 [], .s 0 3 R2 [], .s 0 3 R3 []] 0]] []] 0)] K) = (K (DV.c (D.v (Value.bool !!noRd R0 R1 R2 R3 [a, b, c])))) := by kernel_rfl
def sLR1 : Spec := fun ds Q => match ds with | [.agg [.v (.int .i64 a), .v (.int .i64 b), .v (.int .i64 c)], .c (.p 0 [.f 108 [.f 4294967295 [] [.p 0 [.s 0 3 R0 [], .s 0 3 R1 [], .s 0 3 R2 [], .s 0 3 R3 []] 0]] []] 0)] => Q (B (noRd R0 R1 R2 R3 [a, b, c])) | _ => False
theorem oLR1 : Zad Tryz.prog 156 sLR1 := o_of Tryz.func156 (by kernel_rfl) rfl fun ds Q h => by
  unfold sLR1 at h; split at h
  · exact ⟨_, Zak (.cons oLR .nil) mixed Tryz.func156 rfl rfl rfl (by rw [eLR1, Bool.not_not]), rfl, rfl, h⟩
  · exact h.elim
def Zen (R0 : List (List D)) (R1 : List (List D)) (R2 : List (List D)) (R3 : List (List D)) (R : List (List D)) (sp : List (List D)) (v : Int) (i : Int) : X := ⟨mkT 19 [(0, aS 3 R sp), (1, .c (.d (.f 156 [] [.p 0 [.f 108 [.f 4294967295 [] [.p 0 [.s 0 3 R0 [], .s 0 3 R1 [], .s 0 3 R2 [], .s 0 3 R3 []] 0]] []] 0]))), (4, ai v), (7, ai R.length), (8, ai i)], [], [], []⟩
def Zfu (R0 : List (List D)) (R1 : List (List D)) (R2 : List (List D)) (R3 : List (List D)) (R : List (List D)) (sp : List (List D)) : Vw := fun y K => wI y 4 fun v => wI y 8 fun i => K (Zen R0 R1 R2 R3 R sp v i)
theorem Zh8 (R0 : List (List D)) (R1 : List (List D)) (R2 : List (List D)) (R3 : List (List D)) (R : List (List D)) (sp : List (List D)) : VwOK (Zfu R0 R1 R2 R3 R sp) := fun y K h => by
  unfold Zfu at h
  obtain ⟨v, h⟩ := Za7 h
  obtain ⟨i, h⟩ := Za7 h
  exact ⟨_, h⟩
theorem Zub (R0 : List (List D)) (R1 : List (List D)) (R2 : List (List D)) (R3 : List (List D)) (R sp : List (List D)) (i v : Int) (N : X → Prop) (E : Exit → X → Prop) : (ZcC Tryz.prog (hkA band bor [(156, sLR1)] []) Tryz.f185 0 [] [0, 1, 4, 7, 8] [] (Zfu R0 R1 R2 R3 R sp) (Zfu R0 R1 R2 R3 R sp) N E (Zen R0 R1 R2 R3 R sp v i)) = (bif decide (i < @Nat.cast Int _ (List.length R)) then bif decide (0 ≤ i) && decide (i < @Nat.cast Int _ (List.length R)) then bif isJ [IntKind.i64, IntKind.i64, IntKind.i64] (List.drop (0) (List.getD R (Int.toNat i) [])) then bif noRd R0 R1 R2 R3 [hdJ (List.drop (0) (List.getD R (Int.toNat i) [])), hdJ (List.tail (List.drop (0) (List.getD R (Int.toNat i) []))), hdJ (List.tail (List.tail (List.drop (0) (List.getD R (Int.toNat i) []))))] then Zen R0 R1 R2 R3 R sp i i = Zen R0 R1 R2 R3 R sp i i ∧ E Exit.ret (Zen R0 R1 R2 R3 R sp i i) else Zen R0 R1 R2 R3 R sp v (IntKind.wrap IntKind.i64 (i + 1)) = Zen R0 R1 R2 R3 R sp v (IntKind.wrap IntKind.i64 (i + 1)) ∧ N (Zen R0 R1 R2 R3 R sp v (IntKind.wrap IntKind.i64 (i + 1))) else False else False else Zen R0 R1 R2 R3 R sp v i = Zen R0 R1 R2 R3 R sp v i ∧ E (Exit.exit (0)) (Zen R0 R1 R2 R3 R sp v i)) := by kernel_rfl
def Zst (R0 : List (List D)) (R1 : List (List D)) (R2 : List (List D)) (R3 : List (List D)) (l : List (List Int)) (sp : List (List D)) : LSum := Zde [0, 1, 4, 7, 8] [] (fun i => Zen R0 R1 R2 R3 (mZ l) sp 0 i) (fun i => Zen R0 R1 R2 R3 (mZ l) sp i i) l.length (fun i => noRd R0 R1 R2 R3 (l.getD i [])) .ret (.exit 0)
theorem Zwx (R0 : List (List D)) (R1 : List (List D)) (R2 : List (List D)) (R3 : List (List D)) (l : List (List Int)) (sp : List (List D)) (K : DV → Prop) : (askL Tryz.prog [] [(2, Zst R0 R1 R2 R3 l sp)] Tryz.f185 [dS 3 (mZ l) sp, .c (.f 156 [] [.p 0 [.f 108 [.f 4294967295 [] [.p 0 [.s 0 3 R0 [], .s 0 3 R1 [], .s 0 3 R2 [], .s 0 3 R3 []] 0]] []] 0])] K) = (Zen R0 R1 R2 R3 (mZ l) sp (0) (0) = Zen R0 R1 R2 R3 (mZ l) sp (0) (0) ∧ (∀ (i : Nat), firstAt (fun i => noRd R0 R1 R2 R3 (List.getD l i [])) (List.length l) i → K (DV.c (D.v (Value.int IntKind.i64 (@Nat.cast Int _ i))))) ∧ (noneTo (fun i => noRd R0 R1 R2 R3 (List.getD l i [])) (List.length l) → K (DV.c (D.v (Value.int IntKind.i64 (-1)))))) := by kernel_rfl
theorem Zxa (R0 : List (List D)) (R1 : List (List D)) (R2 : List (List D)) (R3 : List (List D)) {l : List (List Int)} {sp : List (List D)} (hw : wid 3 l) (hn : l.length ≤ 9223372036854775807) (Q : Exit → X → Prop) (x : X) (h : Zst R0 R1 R2 R3 l sp Q x) : XWP Tryz.prog (.loop (Zal Tryz.f185 0)) Q x := by
  refine Zcd (H := hkA band bor [(156, sLR1)] []) (sw := []) (V := Zfu R0 R1 R2 R3 (mZ l) sp) (VE := Zfu R0 R1 R2 R3 (mZ l) sp) (ZaJ (.cons oLR1 .nil)) mixed (Zae rfl) (Zh8 R0 R1 R2 R3 (mZ l) sp) (Zh8 R0 R1 R2 R3 (mZ l) sp) _ _ _ _ _ _ (fun i hl N E h1 h2 => ?_) (fun N E h1 => ?_) Q x h
  · rw [Zub]
    have wi : IntKind.wrap .i64 ((i : Int) + 1) = ((i + 1 : Nat) : Int) := Zaj (n := 1) (by omega)
    have hj1 : isJ [IntKind.i64, IntKind.i64, IntKind.i64] ((mZ l).getD i []) = true := Zau (j := 0) (n := 3) hw hl (by omega)
    simp only [Zai, Int.ofNat_lt, hl, decide_true, cond_true, Int.natCast_nonneg, Bool.and_self, Int.toNat_natCast, ZaV, ZaT, Zbn, hj1, List.drop_zero, ZaF, true_and, wi]
    have e : noRd R0 R1 R2 R3 (l.getD i []) = noRd R0 R1 R2 R3 [(l.getD i []).getD 0 0, (l.getD i []).getD 1 0, (l.getD i []).getD 2 0] := rfl
    cases ho : noRd R0 R1 R2 R3 (l.getD i []) with
    | false => rw [e] at ho; rw [ho]; exact h2 (by rw [e]; exact ho)
    | true => rw [e] at ho; rw [ho]; exact h1 (by rw [e]; exact ho)
  · rw [Zub]
    simp only [Zai, Int.ofNat_lt, Nat.lt_irrefl, decide_false, cond_false, true_and]
    exact h1
def Zs7 : Spec := fun ds Q => match ds with | [.c (.s 0 3 R sp), .c (.f 156 [] [.p 0 [.f 108 [.f 4294967295 [] [.p 0 [.s 0 3 R0 [], .s 0 3 R1 [], .s 0 3 R2 [], .s 0 3 R3 []] 0]] []] 0])] => cond (okZ 3 R) (Q (I (match (toZ R).findIdx? (noRd R0 R1 R2 R3) with | some i => (i : Int) | none => -1))) False | _ => False
theorem ZvM : Zad Tryz.prog 185 Zs7 := o_of Tryz.func185 (by kernel_rfl) rfl fun ds Q h => by
  unfold Zs7 at h; split at h
  · rename_i R sp R0 R1 R2 R3
    obtain ⟨h1, h2⟩ := Zag h
    obtain ⟨e1, w1, n1⟩ := Zah h1
    rw [e1]
    rw [← Zan R] at n1
    generalize toZ R = l at *
    refine ⟨_, ZaB (l := []) (m := [(2, Zst R0 R1 R2 R3 l sp)]) .nil mixed (Za9 rfl (by kernel_rfl) (Zxa R0 R1 R2 R3 w1 n1)) Tryz.func185 rfl rfl rfl ?_, rfl, rfl, h2⟩
    rw [Zwx]
    refine ⟨rfl, fun i hi => ?_, fun hn => ?_⟩
    · rw [hi.find]
    · rw [hn.find]
  · exact h.elim
theorem ZvU (R0 : List (List D)) (R1 : List (List D)) (R2 : List (List D)) (R3 : List (List D)) (R sp : List (List D)) (K : DV → Prop) : (ask Tryz.prog [(185, Zs7)] Tryz.f154 [dS 3 R sp, .c (.f 156 [] [.p 0 [.f 108 [.f 4294967295 [] [.p 0 [.s 0 3 R0 [], .s 0 3 R1 [], .s 0 3 R2 [], .s 0 3 R3 []] 0]] []] 0])] K) = (bif okZ (3) R then K (DV.c (D.v (Value.bool (decide ((match List.findIdx? (noRd R0 R1 R2 R3) (toZ R) with | some i => @Nat.cast Int _ i | none => -1) ≥ 0))))) else False) := by kernel_rfl
def ZsT : Spec := fun ds Q => match ds with | [.c (.s 0 3 R sp), .c (.f 156 [] [.p 0 [.f 108 [.f 4294967295 [] [.p 0 [.s 0 3 R0 [], .s 0 3 R1 [], .s 0 3 R2 [], .s 0 3 R3 []] 0]] []] 0])] => cond (okZ 3 R) (Q (B ((toZ R).any (noRd R0 R1 R2 R3)))) False | _ => False
theorem ZwU : Zad Tryz.prog 154 ZsT := o_of Tryz.func154 (by kernel_rfl) rfl fun ds Q h => by
  unfold ZsT at h; split at h
  · obtain ⟨h1, h2⟩ := Zag h
    refine ⟨_, Zak (.cons ZvM .nil) mixed Tryz.func154 rfl rfl rfl ?_, rfl, rfl, h2⟩
    rw [ZvU, h1, ZeM]; rfl
  · exact h.elim
theorem ZtR (R : List (List D)) (R0 R1 R2 R3 : List (List D)) (K : DV → Prop) : (ask Tryz.prog [(154, ZsT)] Tryz.f107 [.c (.s 0 3 R []), .c (.f 108 [.f 4294967295 [] [.p 0 (wsL R0 R1 R2 R3) 0]] [])] K) = (bif okZ (3) R then K (DV.c (D.v (Value.bool !List.any (toZ R) (noRd R0 R1 R2 R3)))) else False) := by kernel_rfl
def Zpg : Spec := fun ds Q => match ds with | [.c d, .c e] => cond d.isOwn False (Zcg 3 d fun R => ZgU 108 e fun R0 R1 R2 R3 => cond (okZ 3 R) (Q (B (!(toZ R).any (noRd R0 R1 R2 R3)))) False) | _ => False
theorem ZuC : Zad Tryz.prog 107 Zpg := o_al Tryz.func107 (by kernel_rfl) rfl fun ds Q h => by
  unfold Zpg at h; split at h
  · rename_i d e
    cases hd : d.isOwn with
    | true => rw [hd] at h; exact h.elim
    | false =>
      rw [hd] at h
      obtain ⟨R, h, r1⟩ := Zay h
      obtain ⟨R0, R1, R2, R3, h, r2, e2⟩ := Zck (by decide) h
      obtain ⟨h1, h2⟩ := Zag h
      refine ⟨_, _, .cons (.c r1 hd rfl) (.cons (.c r2 e2 rfl) .nil), Zak (.cons ZwU .nil) mixed Tryz.func107 rfl rfl rfl ?_, rfl, rfl, h2⟩
      rw [ZtR, h1]; rfl
  · exact h.elim
def noWr (R0 R1 R2 R3 : List (List D)) (r : List Int) : Bool := !thW R0 R1 R2 R3 (r.getD 0 0) (r.getD 1 0)
theorem eLW (a b c : Int) (R0 R1 R2 R3 : List (List D)) (K : DV → Prop) : (ask Tryz.prog [(157, sThr)] Tryz.f110 [.agg [.p 0 [.s 0 3 R0 [], .s 0 3 R1 [], .s 0 3 R2 [], .s 0 3 R3 []] 0], .agg [vi a, vi b, vi c]] K) = (K (DV.c (D.v (Value.bool (thr (List.length R0) (List.length R1) (List.length R2) (List.length R3) a b))))) := by kernel_rfl
def sLW : Spec := fun ds Q => match ds with | [.agg [.p 0 [.s 0 3 R0 [], .s 0 3 R1 [], .s 0 3 R2 [], .s 0 3 R3 []] 0], .agg [.v (.int .i64 a), .v (.int .i64 b), .v (.int .i64 c)]] => Q (B (!noWr R0 R1 R2 R3 [a, b, c])) | _ => False
theorem oLW : Zad Tryz.prog 110 sLW := o_of Tryz.func110 (by kernel_rfl) rfl fun ds Q h => by
  unfold sLW at h; split at h
  · rename_i R0 R1 R2 R3 a b c
    refine ⟨_, Zak ((.cons oThr .nil)) mixed Tryz.func110 rfl rfl rfl ?_, rfl, rfl, h⟩
    rw [eLW]; unfold noWr thW; simp only [List.getD_cons_zero, List.getD_cons_succ, Bool.not_not]
    try (cases isRW a <;> simp)
  · exact h.elim
theorem eLW1 (a b c : Int) (R0 R1 R2 R3 : List (List D)) (K : DV → Prop) : (ask Tryz.prog [(110, sLW)] Tryz.f159 [.agg [vi a, vi b, vi c], .c (.p 0 [.f 110 [.f 4294967295 [] [.p 0 [.s 0 3 R0 [], .s 0 3 R1 [], .s 0 3 R2 [], .s 0 3 R3 []] 0]] []] 0)] K) = (K (DV.c (D.v (Value.bool !!noWr R0 R1 R2 R3 [a, b, c])))) := by kernel_rfl
def sLW1 : Spec := fun ds Q => match ds with | [.agg [.v (.int .i64 a), .v (.int .i64 b), .v (.int .i64 c)], .c (.p 0 [.f 110 [.f 4294967295 [] [.p 0 [.s 0 3 R0 [], .s 0 3 R1 [], .s 0 3 R2 [], .s 0 3 R3 []] 0]] []] 0)] => Q (B (noWr R0 R1 R2 R3 [a, b, c])) | _ => False
theorem oLW1 : Zad Tryz.prog 159 sLW1 := o_of Tryz.func159 (by kernel_rfl) rfl fun ds Q h => by
  unfold sLW1 at h; split at h
  · exact ⟨_, Zak (.cons oLW .nil) mixed Tryz.func159 rfl rfl rfl (by rw [eLW1, Bool.not_not]), rfl, rfl, h⟩
  · exact h.elim
def Zez (R0 : List (List D)) (R1 : List (List D)) (R2 : List (List D)) (R3 : List (List D)) (R : List (List D)) (sp : List (List D)) (v : Int) (i : Int) : X := ⟨mkT 19 [(0, aS 3 R sp), (1, .c (.d (.f 159 [] [.p 0 [.f 110 [.f 4294967295 [] [.p 0 [.s 0 3 R0 [], .s 0 3 R1 [], .s 0 3 R2 [], .s 0 3 R3 []] 0]] []] 0]))), (4, ai v), (7, ai R.length), (8, ai i)], [], [], []⟩
def Zfa (R0 : List (List D)) (R1 : List (List D)) (R2 : List (List D)) (R3 : List (List D)) (R : List (List D)) (sp : List (List D)) : Vw := fun y K => wI y 4 fun v => wI y 8 fun i => K (Zez R0 R1 R2 R3 R sp v i)
theorem ZhE (R0 : List (List D)) (R1 : List (List D)) (R2 : List (List D)) (R3 : List (List D)) (R : List (List D)) (sp : List (List D)) : VwOK (Zfa R0 R1 R2 R3 R sp) := fun y K h => by
  unfold Zfa at h
  obtain ⟨v, h⟩ := Za7 h
  obtain ⟨i, h⟩ := Za7 h
  exact ⟨_, h⟩
theorem Zvf (R0 : List (List D)) (R1 : List (List D)) (R2 : List (List D)) (R3 : List (List D)) (R sp : List (List D)) (i v : Int) (N : X → Prop) (E : Exit → X → Prop) : (ZcC Tryz.prog (hkA band bor [(159, sLW1)] []) Tryz.f187 0 [] [0, 1, 4, 7, 8] [] (Zfa R0 R1 R2 R3 R sp) (Zfa R0 R1 R2 R3 R sp) N E (Zez R0 R1 R2 R3 R sp v i)) = (bif decide (i < @Nat.cast Int _ (List.length R)) then bif decide (0 ≤ i) && decide (i < @Nat.cast Int _ (List.length R)) then bif isJ [IntKind.i64, IntKind.i64, IntKind.i64] (List.drop (0) (List.getD R (Int.toNat i) [])) then bif noWr R0 R1 R2 R3 [hdJ (List.drop (0) (List.getD R (Int.toNat i) [])), hdJ (List.tail (List.drop (0) (List.getD R (Int.toNat i) []))), hdJ (List.tail (List.tail (List.drop (0) (List.getD R (Int.toNat i) []))))] then Zez R0 R1 R2 R3 R sp i i = Zez R0 R1 R2 R3 R sp i i ∧ E Exit.ret (Zez R0 R1 R2 R3 R sp i i) else Zez R0 R1 R2 R3 R sp v (IntKind.wrap IntKind.i64 (i + 1)) = Zez R0 R1 R2 R3 R sp v (IntKind.wrap IntKind.i64 (i + 1)) ∧ N (Zez R0 R1 R2 R3 R sp v (IntKind.wrap IntKind.i64 (i + 1))) else False else False else Zez R0 R1 R2 R3 R sp v i = Zez R0 R1 R2 R3 R sp v i ∧ E (Exit.exit (0)) (Zez R0 R1 R2 R3 R sp v i)) := by kernel_rfl
def ZsX (R0 : List (List D)) (R1 : List (List D)) (R2 : List (List D)) (R3 : List (List D)) (l : List (List Int)) (sp : List (List D)) : LSum := Zde [0, 1, 4, 7, 8] [] (fun i => Zez R0 R1 R2 R3 (mZ l) sp 0 i) (fun i => Zez R0 R1 R2 R3 (mZ l) sp i i) l.length (fun i => noWr R0 R1 R2 R3 (l.getD i [])) .ret (.exit 0)
theorem ZwL (R0 : List (List D)) (R1 : List (List D)) (R2 : List (List D)) (R3 : List (List D)) (l : List (List Int)) (sp : List (List D)) (K : DV → Prop) : (askL Tryz.prog [] [(2, ZsX R0 R1 R2 R3 l sp)] Tryz.f187 [dS 3 (mZ l) sp, .c (.f 159 [] [.p 0 [.f 110 [.f 4294967295 [] [.p 0 [.s 0 3 R0 [], .s 0 3 R1 [], .s 0 3 R2 [], .s 0 3 R3 []] 0]] []] 0])] K) = (Zez R0 R1 R2 R3 (mZ l) sp (0) (0) = Zez R0 R1 R2 R3 (mZ l) sp (0) (0) ∧ (∀ (i : Nat), firstAt (fun i => noWr R0 R1 R2 R3 (List.getD l i [])) (List.length l) i → K (DV.c (D.v (Value.int IntKind.i64 (@Nat.cast Int _ i))))) ∧ (noneTo (fun i => noWr R0 R1 R2 R3 (List.getD l i [])) (List.length l) → K (DV.c (D.v (Value.int IntKind.i64 (-1)))))) := by kernel_rfl
theorem Zxm (R0 : List (List D)) (R1 : List (List D)) (R2 : List (List D)) (R3 : List (List D)) {l : List (List Int)} {sp : List (List D)} (hw : wid 3 l) (hn : l.length ≤ 9223372036854775807) (Q : Exit → X → Prop) (x : X) (h : ZsX R0 R1 R2 R3 l sp Q x) : XWP Tryz.prog (.loop (Zal Tryz.f187 0)) Q x := by
  refine Zcd (H := hkA band bor [(159, sLW1)] []) (sw := []) (V := Zfa R0 R1 R2 R3 (mZ l) sp) (VE := Zfa R0 R1 R2 R3 (mZ l) sp) (ZaJ (.cons oLW1 .nil)) mixed (Zae rfl) (ZhE R0 R1 R2 R3 (mZ l) sp) (ZhE R0 R1 R2 R3 (mZ l) sp) _ _ _ _ _ _ (fun i hl N E h1 h2 => ?_) (fun N E h1 => ?_) Q x h
  · rw [Zvf]
    have wi : IntKind.wrap .i64 ((i : Int) + 1) = ((i + 1 : Nat) : Int) := Zaj (n := 1) (by omega)
    have hj1 : isJ [IntKind.i64, IntKind.i64, IntKind.i64] ((mZ l).getD i []) = true := Zau (j := 0) (n := 3) hw hl (by omega)
    simp only [Zai, Int.ofNat_lt, hl, decide_true, cond_true, Int.natCast_nonneg, Bool.and_self, Int.toNat_natCast, ZaV, ZaT, Zbn, hj1, List.drop_zero, ZaF, true_and, wi]
    have e : noWr R0 R1 R2 R3 (l.getD i []) = noWr R0 R1 R2 R3 [(l.getD i []).getD 0 0, (l.getD i []).getD 1 0, (l.getD i []).getD 2 0] := rfl
    cases ho : noWr R0 R1 R2 R3 (l.getD i []) with
    | false => rw [e] at ho; rw [ho]; exact h2 (by rw [e]; exact ho)
    | true => rw [e] at ho; rw [ho]; exact h1 (by rw [e]; exact ho)
  · rw [Zvf]
    simp only [Zai, Int.ofNat_lt, Nat.lt_irrefl, decide_false, cond_false, true_and]
    exact h1
def Zs0 : Spec := fun ds Q => match ds with | [.c (.s 0 3 R sp), .c (.f 159 [] [.p 0 [.f 110 [.f 4294967295 [] [.p 0 [.s 0 3 R0 [], .s 0 3 R1 [], .s 0 3 R2 [], .s 0 3 R3 []] 0]] []] 0])] => cond (okZ 3 R) (Q (I (match (toZ R).findIdx? (noWr R0 R1 R2 R3) with | some i => (i : Int) | none => -1))) False | _ => False
theorem Zw1 : Zad Tryz.prog 187 Zs0 := o_of Tryz.func187 (by kernel_rfl) rfl fun ds Q h => by
  unfold Zs0 at h; split at h
  · rename_i R sp R0 R1 R2 R3
    obtain ⟨h1, h2⟩ := Zag h
    obtain ⟨e1, w1, n1⟩ := Zah h1
    rw [e1]
    rw [← Zan R] at n1
    generalize toZ R = l at *
    refine ⟨_, ZaB (l := []) (m := [(2, ZsX R0 R1 R2 R3 l sp)]) .nil mixed (Za9 rfl (by kernel_rfl) (Zxm R0 R1 R2 R3 w1 n1)) Tryz.func187 rfl rfl rfl ?_, rfl, rfl, h2⟩
    rw [ZwL]
    refine ⟨rfl, fun i hi => ?_, fun hn => ?_⟩
    · rw [hi.find]
    · rw [hn.find]
  · exact h.elim
theorem Zwz (R0 : List (List D)) (R1 : List (List D)) (R2 : List (List D)) (R3 : List (List D)) (R sp : List (List D)) (K : DV → Prop) : (ask Tryz.prog [(187, Zs0)] Tryz.f158 [dS 3 R sp, .c (.f 159 [] [.p 0 [.f 110 [.f 4294967295 [] [.p 0 [.s 0 3 R0 [], .s 0 3 R1 [], .s 0 3 R2 [], .s 0 3 R3 []] 0]] []] 0])] K) = (bif okZ (3) R then K (DV.c (D.v (Value.bool (decide ((match List.findIdx? (noWr R0 R1 R2 R3) (toZ R) with | some i => @Nat.cast Int _ i | none => -1) ≥ 0))))) else False) := by kernel_rfl
def ZsE : Spec := fun ds Q => match ds with | [.c (.s 0 3 R sp), .c (.f 159 [] [.p 0 [.f 110 [.f 4294967295 [] [.p 0 [.s 0 3 R0 [], .s 0 3 R1 [], .s 0 3 R2 [], .s 0 3 R3 []] 0]] []] 0])] => cond (okZ 3 R) (Q (B ((toZ R).any (noWr R0 R1 R2 R3)))) False | _ => False
theorem Zw7 : Zad Tryz.prog 158 ZsE := o_of Tryz.func158 (by kernel_rfl) rfl fun ds Q h => by
  unfold ZsE at h; split at h
  · obtain ⟨h1, h2⟩ := Zag h
    refine ⟨_, Zak (.cons Zw1 .nil) mixed Tryz.func158 rfl rfl rfl ?_, rfl, rfl, h2⟩
    rw [Zwz, h1, ZeM]; rfl
  · exact h.elim
theorem Zup (R : List (List D)) (R0 R1 R2 R3 : List (List D)) (K : DV → Prop) : (ask Tryz.prog [(158, ZsE)] Tryz.f109 [.c (.s 0 3 R []), .c (.f 110 [.f 4294967295 [] [.p 0 (wsL R0 R1 R2 R3) 0]] [])] K) = (bif okZ (3) R then K (DV.c (D.v (Value.bool !List.any (toZ R) (noWr R0 R1 R2 R3)))) else False) := by kernel_rfl
def ZoX : Spec := fun ds Q => match ds with | [.c d, .c e] => cond d.isOwn False (Zcg 3 d fun R => ZgU 110 e fun R0 R1 R2 R3 => cond (okZ 3 R) (Q (B (!(toZ R).any (noWr R0 R1 R2 R3)))) False) | _ => False
theorem Zvh : Zad Tryz.prog 109 ZoX := o_al Tryz.func109 (by kernel_rfl) rfl fun ds Q h => by
  unfold ZoX at h; split at h
  · rename_i d e
    cases hd : d.isOwn with
    | true => rw [hd] at h; exact h.elim
    | false =>
      rw [hd] at h
      obtain ⟨R, h, r1⟩ := Zay h
      obtain ⟨R0, R1, R2, R3, h, r2, e2⟩ := Zck (by decide) h
      obtain ⟨h1, h2⟩ := Zag h
      refine ⟨_, _, .cons (.c r1 hd rfl) (.cons (.c r2 e2 rfl) .nil), Zak (.cons Zw7 .nil) mixed Tryz.func109 rfl rfl rfl ?_, rfl, rfl, h2⟩
      rw [Zup, h1]; rfl
  · exact h.elim
def noIn (R0 R1 R2 R3 : List (List D)) (r : List Int) : Bool := isRW (r.getD 0 0) && !thW R0 R1 R2 R3 (r.getD 2 0) (r.getD 3 0)
theorem eLI (a b c d : Int) (R0 R1 R2 R3 : List (List D)) (K : DV → Prop) : (ask Tryz.prog [(162, sIWd), (157, sThr)] Tryz.f112 [.agg [.p 0 [.s 0 3 R0 [], .s 0 3 R1 [], .s 0 3 R2 [], .s 0 3 R3 []] 0], .agg [vi a, vi b, vi c, vi d]] K) = (bif !isRW a then K (DV.c (D.v (Value.bool true))) else K (DV.c (D.v (Value.bool (thr (List.length R0) (List.length R1) (List.length R2) (List.length R3) c d))))) := by kernel_rfl
def sLI : Spec := fun ds Q => match ds with | [.agg [.p 0 [.s 0 3 R0 [], .s 0 3 R1 [], .s 0 3 R2 [], .s 0 3 R3 []] 0], .agg [.v (.int .i64 a), .v (.int .i64 b), .v (.int .i64 c), .v (.int .i64 d)]] => Q (B (!noIn R0 R1 R2 R3 [a, b, c, d])) | _ => False
theorem oLI : Zad Tryz.prog 112 sLI := o_of Tryz.func112 (by kernel_rfl) rfl fun ds Q h => by
  unfold sLI at h; split at h
  · rename_i R0 R1 R2 R3 a b c d
    refine ⟨_, Zak (.cons oIWd (.cons oThr .nil)) mixed Tryz.func112 rfl rfl rfl ?_, rfl, rfl, h⟩
    rw [eLI]; unfold noIn thW; simp only [List.getD_cons_zero, List.getD_cons_succ, Bool.not_not]
    try (cases isRW a <;> simp)
  · exact h.elim
theorem eLI1 (a b c d : Int) (R0 R1 R2 R3 : List (List D)) (K : DV → Prop) : (ask Tryz.prog [(112, sLI)] Tryz.f161 [.agg [vi a, vi b, vi c, vi d], .c (.p 0 [.f 112 [.f 4294967295 [] [.p 0 [.s 0 3 R0 [], .s 0 3 R1 [], .s 0 3 R2 [], .s 0 3 R3 []] 0]] []] 0)] K) = (K (DV.c (D.v (Value.bool !!noIn R0 R1 R2 R3 [a, b, c, d])))) := by kernel_rfl
def sLI1 : Spec := fun ds Q => match ds with | [.agg [.v (.int .i64 a), .v (.int .i64 b), .v (.int .i64 c), .v (.int .i64 d)], .c (.p 0 [.f 112 [.f 4294967295 [] [.p 0 [.s 0 3 R0 [], .s 0 3 R1 [], .s 0 3 R2 [], .s 0 3 R3 []] 0]] []] 0)] => Q (B (noIn R0 R1 R2 R3 [a, b, c, d])) | _ => False
theorem oLI1 : Zad Tryz.prog 161 sLI1 := o_of Tryz.func161 (by kernel_rfl) rfl fun ds Q h => by
  unfold sLI1 at h; split at h
  · exact ⟨_, Zak (.cons oLI .nil) mixed Tryz.func161 rfl rfl rfl (by rw [eLI1, Bool.not_not]), rfl, rfl, h⟩
  · exact h.elim
def Zed (R0 : List (List D)) (R1 : List (List D)) (R2 : List (List D)) (R3 : List (List D)) (R : List (List D)) (sp : List (List D)) (v : Int) (i : Int) : X := ⟨mkT 19 [(0, aS 4 R sp), (1, .c (.d (.f 161 [] [.p 0 [.f 112 [.f 4294967295 [] [.p 0 [.s 0 3 R0 [], .s 0 3 R1 [], .s 0 3 R2 [], .s 0 3 R3 []] 0]] []] 0]))), (4, ai v), (7, ai R.length), (8, ai i)], [], [], []⟩
def Ze5 (R0 : List (List D)) (R1 : List (List D)) (R2 : List (List D)) (R3 : List (List D)) (R : List (List D)) (sp : List (List D)) : Vw := fun y K => wI y 4 fun v => wI y 8 fun i => K (Zed R0 R1 R2 R3 R sp v i)
theorem ZhW (R0 : List (List D)) (R1 : List (List D)) (R2 : List (List D)) (R3 : List (List D)) (R : List (List D)) (sp : List (List D)) : VwOK (Ze5 R0 R1 R2 R3 R sp) := fun y K h => by
  unfold Ze5 at h
  obtain ⟨v, h⟩ := Za7 h
  obtain ⟨i, h⟩ := Za7 h
  exact ⟨_, h⟩
theorem Zuv (R0 : List (List D)) (R1 : List (List D)) (R2 : List (List D)) (R3 : List (List D)) (R sp : List (List D)) (i v : Int) (N : X → Prop) (E : Exit → X → Prop) : (ZcC Tryz.prog (hkA band bor [(161, sLI1)] []) Tryz.f188 0 [] [0, 1, 4, 7, 8] [] (Ze5 R0 R1 R2 R3 R sp) (Ze5 R0 R1 R2 R3 R sp) N E (Zed R0 R1 R2 R3 R sp v i)) = (bif decide (i < @Nat.cast Int _ (List.length R)) then bif decide (0 ≤ i) && decide (i < @Nat.cast Int _ (List.length R)) then bif isJ [IntKind.i64, IntKind.i64, IntKind.i64, IntKind.i64] (List.drop (0) (List.getD R (Int.toNat i) [])) then bif noIn R0 R1 R2 R3 [hdJ (List.drop (0) (List.getD R (Int.toNat i) [])), hdJ (List.tail (List.drop (0) (List.getD R (Int.toNat i) []))), hdJ (List.tail (List.tail (List.drop (0) (List.getD R (Int.toNat i) [])))), hdJ (List.tail (List.tail (List.tail (List.drop (0) (List.getD R (Int.toNat i) [])))))] then Zed R0 R1 R2 R3 R sp i i = Zed R0 R1 R2 R3 R sp i i ∧ E Exit.ret (Zed R0 R1 R2 R3 R sp i i) else Zed R0 R1 R2 R3 R sp v (IntKind.wrap IntKind.i64 (i + 1)) = Zed R0 R1 R2 R3 R sp v (IntKind.wrap IntKind.i64 (i + 1)) ∧ N (Zed R0 R1 R2 R3 R sp v (IntKind.wrap IntKind.i64 (i + 1))) else False else False else Zed R0 R1 R2 R3 R sp v i = Zed R0 R1 R2 R3 R sp v i ∧ E (Exit.exit (0)) (Zed R0 R1 R2 R3 R sp v i)) := by kernel_rfl
def ZsZ (R0 : List (List D)) (R1 : List (List D)) (R2 : List (List D)) (R3 : List (List D)) (l : List (List Int)) (sp : List (List D)) : LSum := Zde [0, 1, 4, 7, 8] [] (fun i => Zed R0 R1 R2 R3 (mZ l) sp 0 i) (fun i => Zed R0 R1 R2 R3 (mZ l) sp i i) l.length (fun i => noIn R0 R1 R2 R3 (l.getD i [])) .ret (.exit 0)
theorem Zxb (R0 : List (List D)) (R1 : List (List D)) (R2 : List (List D)) (R3 : List (List D)) (l : List (List Int)) (sp : List (List D)) (K : DV → Prop) : (askL Tryz.prog [] [(2, ZsZ R0 R1 R2 R3 l sp)] Tryz.f188 [dS 4 (mZ l) sp, .c (.f 161 [] [.p 0 [.f 112 [.f 4294967295 [] [.p 0 [.s 0 3 R0 [], .s 0 3 R1 [], .s 0 3 R2 [], .s 0 3 R3 []] 0]] []] 0])] K) = (Zed R0 R1 R2 R3 (mZ l) sp (0) (0) = Zed R0 R1 R2 R3 (mZ l) sp (0) (0) ∧ (∀ (i : Nat), firstAt (fun i => noIn R0 R1 R2 R3 (List.getD l i [])) (List.length l) i → K (DV.c (D.v (Value.int IntKind.i64 (@Nat.cast Int _ i))))) ∧ (noneTo (fun i => noIn R0 R1 R2 R3 (List.getD l i [])) (List.length l) → K (DV.c (D.v (Value.int IntKind.i64 (-1)))))) := by kernel_rfl
theorem ZvN (R0 : List (List D)) (R1 : List (List D)) (R2 : List (List D)) (R3 : List (List D)) {l : List (List Int)} {sp : List (List D)} (hw : wid 4 l) (hn : l.length ≤ 9223372036854775807) (Q : Exit → X → Prop) (x : X) (h : ZsZ R0 R1 R2 R3 l sp Q x) : XWP Tryz.prog (.loop (Zal Tryz.f188 0)) Q x := by
  refine Zcd (H := hkA band bor [(161, sLI1)] []) (sw := []) (V := Ze5 R0 R1 R2 R3 (mZ l) sp) (VE := Ze5 R0 R1 R2 R3 (mZ l) sp) (ZaJ (.cons oLI1 .nil)) mixed (Zae rfl) (ZhW R0 R1 R2 R3 (mZ l) sp) (ZhW R0 R1 R2 R3 (mZ l) sp) _ _ _ _ _ _ (fun i hl N E h1 h2 => ?_) (fun N E h1 => ?_) Q x h
  · rw [Zuv]
    have wi : IntKind.wrap .i64 ((i : Int) + 1) = ((i + 1 : Nat) : Int) := Zaj (n := 1) (by omega)
    have hj1 : isJ [IntKind.i64, IntKind.i64, IntKind.i64, IntKind.i64] ((mZ l).getD i []) = true := Zau (j := 0) (n := 4) hw hl (by omega)
    simp only [Zai, Int.ofNat_lt, hl, decide_true, cond_true, Int.natCast_nonneg, Bool.and_self, Int.toNat_natCast, ZaV, ZaT, Zbn, hj1, List.drop_zero, ZaF, true_and, wi]
    have e : noIn R0 R1 R2 R3 (l.getD i []) = noIn R0 R1 R2 R3 [(l.getD i []).getD 0 0, (l.getD i []).getD 1 0, (l.getD i []).getD 2 0, (l.getD i []).getD 3 0] := rfl
    cases ho : noIn R0 R1 R2 R3 (l.getD i []) with
    | false => rw [e] at ho; rw [ho]; exact h2 (by rw [e]; exact ho)
    | true => rw [e] at ho; rw [ho]; exact h1 (by rw [e]; exact ho)
  · rw [Zuv]
    simp only [Zai, Int.ofNat_lt, Nat.lt_irrefl, decide_false, cond_false, true_and]
    exact h1
def Ztu : Spec := fun ds Q => match ds with | [.c (.s 0 4 R sp), .c (.f 161 [] [.p 0 [.f 112 [.f 4294967295 [] [.p 0 [.s 0 3 R0 [], .s 0 3 R1 [], .s 0 3 R2 [], .s 0 3 R3 []] 0]] []] 0])] => cond (okZ 4 R) (Q (I (match (toZ R).findIdx? (noIn R0 R1 R2 R3) with | some i => (i : Int) | none => -1))) False | _ => False
theorem Zwg : Zad Tryz.prog 188 Ztu := o_of Tryz.func188 (by kernel_rfl) rfl fun ds Q h => by
  unfold Ztu at h; split at h
  · rename_i R sp R0 R1 R2 R3
    obtain ⟨h1, h2⟩ := Zag h
    obtain ⟨e1, w1, n1⟩ := Zah h1
    rw [e1]
    rw [← Zan R] at n1
    generalize toZ R = l at *
    refine ⟨_, ZaB (l := []) (m := [(2, ZsZ R0 R1 R2 R3 l sp)]) .nil mixed (Za9 rfl (by kernel_rfl) (ZvN R0 R1 R2 R3 w1 n1)) Tryz.func188 rfl rfl rfl ?_, rfl, rfl, h2⟩
    rw [Zxb]
    refine ⟨rfl, fun i hi => ?_, fun hn => ?_⟩
    · rw [hi.find]
    · rw [hn.find]
  · exact h.elim
theorem Zxl (R0 : List (List D)) (R1 : List (List D)) (R2 : List (List D)) (R3 : List (List D)) (R sp : List (List D)) (K : DV → Prop) : (ask Tryz.prog [(188, Ztu)] Tryz.f160 [dS 4 R sp, .c (.f 161 [] [.p 0 [.f 112 [.f 4294967295 [] [.p 0 [.s 0 3 R0 [], .s 0 3 R1 [], .s 0 3 R2 [], .s 0 3 R3 []] 0]] []] 0])] K) = (bif okZ (4) R then K (DV.c (D.v (Value.bool (decide ((match List.findIdx? (noIn R0 R1 R2 R3) (toZ R) with | some i => @Nat.cast Int _ i | none => -1) ≥ 0))))) else False) := by kernel_rfl
def ZtB : Spec := fun ds Q => match ds with | [.c (.s 0 4 R sp), .c (.f 161 [] [.p 0 [.f 112 [.f 4294967295 [] [.p 0 [.s 0 3 R0 [], .s 0 3 R1 [], .s 0 3 R2 [], .s 0 3 R3 []] 0]] []] 0])] => cond (okZ 4 R) (Q (B ((toZ R).any (noIn R0 R1 R2 R3)))) False | _ => False
theorem Zvq : Zad Tryz.prog 160 ZtB := o_of Tryz.func160 (by kernel_rfl) rfl fun ds Q h => by
  unfold ZtB at h; split at h
  · obtain ⟨h1, h2⟩ := Zag h
    refine ⟨_, Zak (.cons Zwg .nil) mixed Tryz.func160 rfl rfl rfl ?_, rfl, rfl, h2⟩
    rw [Zxl, h1, ZeM]; rfl
  · exact h.elim
theorem Zu5 (R : List (List D)) (R0 R1 R2 R3 : List (List D)) (K : DV → Prop) : (ask Tryz.prog [(160, ZtB)] Tryz.f111 [.c (.s 0 4 R []), .c (.f 112 [.f 4294967295 [] [.p 0 (wsL R0 R1 R2 R3) 0]] [])] K) = (bif okZ (4) R then K (DV.c (D.v (Value.bool !List.any (toZ R) (noIn R0 R1 R2 R3)))) else False) := by kernel_rfl
def Zpc : Spec := fun ds Q => match ds with | [.c d, .c e] => cond d.isOwn False (Zcg 4 d fun R => ZgU 112 e fun R0 R1 R2 R3 => cond (okZ 4 R) (Q (B (!(toZ R).any (noIn R0 R1 R2 R3)))) False) | _ => False
theorem Zt3 : Zad Tryz.prog 111 Zpc := o_al Tryz.func111 (by kernel_rfl) rfl fun ds Q h => by
  unfold Zpc at h; split at h
  · rename_i d e
    cases hd : d.isOwn with
    | true => rw [hd] at h; exact h.elim
    | false =>
      rw [hd] at h
      obtain ⟨R, h, r1⟩ := Zay h
      obtain ⟨R0, R1, R2, R3, h, r2, e2⟩ := Zck (by decide) h
      obtain ⟨h1, h2⟩ := Zag h
      refine ⟨_, _, .cons (.c r1 hd rfl) (.cons (.c r2 e2 rfl) .nil), Zak (.cons Zvq .nil) mixed Tryz.func111 rfl rfl rfl ?_, rfl, rfl, h2⟩
      rw [Zu5, h1]; rfl
  · exact h.elim
theorem eLE (a b c d : Int) (K : DV → Prop) : (ask Tryz.prog [(64, sB lab)] Tryz.f63 [.agg [vi a, vi b, vi c, vi d]] K) = (K (DV.c (D.v (Value.bool (lab b))))) := by kernel_rfl
def sLE : Spec := fun ds Q => match ds with | [.agg [.v (.int .i64 a), .v (.int .i64 b), .v (.int .i64 c), .v (.int .i64 d)]] => Q (B (lab b)) | _ => False
theorem oLE : Zad Tryz.prog 63 sLE := o_of Tryz.func63 (by kernel_rfl) rfl fun ds Q h => by
  unfold sLE at h; split at h
  · exact ⟨_, Zak (.cons oLab .nil) mixed Tryz.func63 rfl rfl rfl (by rw [eLE]), rfl, rfl, h⟩
  · exact h.elim
def noEv (r : List Int) : Bool := !lab (r.getD 1 0)
theorem eLE1 (a b c d : Int) (K : DV → Prop) : (ask Tryz.prog [(63, sLE)] Tryz.f117 [.agg [vi a, vi b, vi c, vi d], .c (.p 0 [.f 63 [] []] 0)] K) = (K (DV.c (D.v (Value.bool !lab b)))) := by kernel_rfl
def sLE1 : Spec := fun ds Q => match ds with | [.agg [.v (.int .i64 a), .v (.int .i64 b), .v (.int .i64 c), .v (.int .i64 d)], .c (.p 0 [.f 63 [] []] 0)] => Q (B (noEv [a, b, c, d])) | _ => False
theorem oLE1 : Zad Tryz.prog 117 sLE1 := o_of Tryz.func117 (by kernel_rfl) rfl fun ds Q h => by
  unfold sLE1 at h; split at h
  · exact ⟨_, Zak (.cons oLE .nil) mixed Tryz.func117 rfl rfl rfl (by rw [eLE1]; rfl), rfl, rfl, h⟩
  · exact h.elim
def Zet (R : List (List D)) (sp : List (List D)) (v : Int) (i : Int) : X := ⟨mkT 19 [(0, aS 4 R sp), (1, .c (.d (.f 117 [] [.p 0 [.f 63 [] []] 0]))), (4, ai v), (7, ai R.length), (8, ai i)], [], [], []⟩
def Zff (R : List (List D)) (sp : List (List D)) : Vw := fun y K => wI y 4 fun v => wI y 8 fun i => K (Zet R sp v i)
theorem ZhP (R : List (List D)) (sp : List (List D)) : VwOK (Zff R sp) := fun y K h => by
  unfold Zff at h
  obtain ⟨v, h⟩ := Za7 h
  obtain ⟨i, h⟩ := Za7 h
  exact ⟨_, h⟩
theorem Zua  (R sp : List (List D)) (i v : Int) (N : X → Prop) (E : Exit → X → Prop) : (ZcC Tryz.prog (hkA band bor [(117, sLE1)] []) Tryz.f163 0 [] [0, 1, 4, 7, 8] [] (Zff  R sp) (Zff  R sp) N E (Zet  R sp v i)) = (bif decide (i < @Nat.cast Int _ (List.length R)) then bif decide (0 ≤ i) && decide (i < @Nat.cast Int _ (List.length R)) then bif isJ [IntKind.i64, IntKind.i64, IntKind.i64, IntKind.i64] (List.drop (0) (List.getD R (Int.toNat i) [])) then bif noEv [hdJ (List.drop (0) (List.getD R (Int.toNat i) [])), hdJ (List.tail (List.drop (0) (List.getD R (Int.toNat i) []))), hdJ (List.tail (List.tail (List.drop (0) (List.getD R (Int.toNat i) [])))), hdJ (List.tail (List.tail (List.tail (List.drop (0) (List.getD R (Int.toNat i) [])))))] then Zet R sp i i = Zet R sp i i ∧ E Exit.ret (Zet R sp i i) else Zet R sp v (IntKind.wrap IntKind.i64 (i + 1)) = Zet R sp v (IntKind.wrap IntKind.i64 (i + 1)) ∧ N (Zet R sp v (IntKind.wrap IntKind.i64 (i + 1))) else False else False else Zet R sp v i = Zet R sp v i ∧ E (Exit.exit (0)) (Zet R sp v i)) := by kernel_rfl
def Zs4  (l : List (List Int)) (sp : List (List D)) : LSum := Zde [0, 1, 4, 7, 8] [] (fun i => Zet  (mZ l) sp 0 i) (fun i => Zet  (mZ l) sp i i) l.length (fun i => noEv  (l.getD i [])) .ret (.exit 0)
theorem Zvp  (l : List (List Int)) (sp : List (List D)) (K : DV → Prop) : (askL Tryz.prog [] [(2, Zs4  l sp)] Tryz.f163 [dS 4 (mZ l) sp, .c (.f 117 [] [.p 0 [.f 63 [] []] 0])] K) = (Zet (mZ l) sp (0) (0) = Zet (mZ l) sp (0) (0) ∧ (∀ (i : Nat), firstAt (fun i => noEv (List.getD l i [])) (List.length l) i → K (DV.c (D.v (Value.int IntKind.i64 (@Nat.cast Int _ i))))) ∧ (noneTo (fun i => noEv (List.getD l i [])) (List.length l) → K (DV.c (D.v (Value.int IntKind.i64 (-1)))))) := by kernel_rfl
theorem Zwh  {l : List (List Int)} {sp : List (List D)} (hw : wid 4 l) (hn : l.length ≤ 9223372036854775807) (Q : Exit → X → Prop) (x : X) (h : Zs4  l sp Q x) : XWP Tryz.prog (.loop (Zal Tryz.f163 0)) Q x := by
  refine Zcd (H := hkA band bor [(117, sLE1)] []) (sw := []) (V := Zff  (mZ l) sp) (VE := Zff  (mZ l) sp) (ZaJ (.cons oLE1 .nil)) mixed (Zae rfl) (ZhP  (mZ l) sp) (ZhP  (mZ l) sp) _ _ _ _ _ _ (fun i hl N E h1 h2 => ?_) (fun N E h1 => ?_) Q x h
  · rw [Zua]
    have wi : IntKind.wrap .i64 ((i : Int) + 1) = ((i + 1 : Nat) : Int) := Zaj (n := 1) (by omega)
    have hj1 : isJ [IntKind.i64, IntKind.i64, IntKind.i64, IntKind.i64] ((mZ l).getD i []) = true := Zau (j := 0) (n := 4) hw hl (by omega)
    simp only [Zai, Int.ofNat_lt, hl, decide_true, cond_true, Int.natCast_nonneg, Bool.and_self, Int.toNat_natCast, ZaV, ZaT, Zbn, hj1, List.drop_zero, ZaF, true_and, wi]
    have e : noEv  (l.getD i []) = noEv  [(l.getD i []).getD 0 0, (l.getD i []).getD 1 0, (l.getD i []).getD 2 0, (l.getD i []).getD 3 0] := rfl
    cases ho : noEv  (l.getD i []) with
    | false => rw [e] at ho; rw [ho]; exact h2 (by rw [e]; exact ho)
    | true => rw [e] at ho; rw [ho]; exact h1 (by rw [e]; exact ho)
  · rw [Zua]
    simp only [Zai, Int.ofNat_lt, Nat.lt_irrefl, decide_false, cond_false, true_and]
    exact h1
def ZsW : Spec := fun ds Q => match ds with | [.c (.s 0 4 R sp), .c (.f 117 [] [.p 0 [.f 63 [] []] 0])] => cond (okZ 4 R) (Q (I (match (toZ R).findIdx? (noEv ) with | some i => (i : Int) | none => -1))) False | _ => False
theorem Zv0 : Zad Tryz.prog 163 ZsW := o_of Tryz.func163 (by kernel_rfl) rfl fun ds Q h => by
  unfold ZsW at h; split at h
  · rename_i R sp 
    obtain ⟨h1, h2⟩ := Zag h
    obtain ⟨e1, w1, n1⟩ := Zah h1
    rw [e1]
    rw [← Zan R] at n1
    generalize toZ R = l at *
    refine ⟨_, ZaB (l := []) (m := [(2, Zs4  l sp)]) .nil mixed (Za9 rfl (by kernel_rfl) (Zwh  w1 n1)) Tryz.func163 rfl rfl rfl ?_, rfl, rfl, h2⟩
    rw [Zvp]
    refine ⟨rfl, fun i hi => ?_, fun hn => ?_⟩
    · rw [hi.find]
    · rw [hn.find]
  · exact h.elim
theorem Zxi  (R sp : List (List D)) (K : DV → Prop) : (ask Tryz.prog [(163, ZsW)] Tryz.f116 [dS 4 R sp, .c (.f 117 [] [.p 0 [.f 63 [] []] 0])] K) = (bif okZ (4) R then K (DV.c (D.v (Value.bool (decide ((match List.findIdx? noEv (toZ R) with | some i => @Nat.cast Int _ i | none => -1) ≥ 0))))) else False) := by kernel_rfl
def Ztp : Spec := fun ds Q => match ds with | [.c (.s 0 4 R sp), .c (.f 117 [] [.p 0 [.f 63 [] []] 0])] => cond (okZ 4 R) (Q (B ((toZ R).any (noEv )))) False | _ => False
theorem Zwd : Zad Tryz.prog 116 Ztp := o_of Tryz.func116 (by kernel_rfl) rfl fun ds Q h => by
  unfold Ztp at h; split at h
  · obtain ⟨h1, h2⟩ := Zag h
    refine ⟨_, Zak (.cons Zv0 .nil) mixed Tryz.func116 rfl rfl rfl ?_, rfl, rfl, h2⟩
    rw [Zxi, h1, ZeM]; rfl
  · exact h.elim
theorem ZtU (R : List (List D)) (K : DV → Prop) : (ask Tryz.prog [(116, Ztp)] Tryz.f67 [.c (.s 0 4 R []), .c (.f 63 [] [])] K) = (bif okZ (4) R then K (DV.c (D.v (Value.bool !List.any (toZ R) noEv))) else False) := by kernel_rfl
def Zgh : Spec := fun ds Q => match ds with | [.c d, .c (.f 63 [] [])] => cond d.isOwn False (Zcg 4 d fun R => cond (okZ 4 R) (Q (B (!(toZ R).any noEv))) False) | _ => False
theorem Zja : Zad Tryz.prog 67 Zgh := o_al Tryz.func67 (by kernel_rfl) rfl fun ds Q h => by
  unfold Zgh at h; split at h
  · rename_i d
    cases hd : d.isOwn with
    | true => rw [hd] at h; exact h.elim
    | false =>
      rw [hd] at h
      obtain ⟨R, h, r1⟩ := Zay h
      obtain ⟨h1, h2⟩ := Zag h
      refine ⟨_, _, .cons (.c r1 hd rfl) (.cons (.refl _) .nil), Zak (.cons Zwd .nil) mixed Tryz.func67 rfl rfl rfl ?_, rfl, rfl, h2⟩
      rw [ZtU, h1]; rfl
  · exact h.elim
theorem eMIn (x m : Int) (K : DV → Prop) : (ask Tryz.prog [] Tryz.f113 [I x, I m] K) = (bif decide (x ≥ 0) then K (DV.c (D.v (Value.bool (decide (x ≤ m))))) else K (DV.c (D.v (Value.bool false)))) := by kernel_rfl
theorem oMIn : Zad Tryz.prog 113 sIn := o_of Tryz.func113 (by kernel_rfl) rfl fun ds Q h => by
  unfold sIn at h; split at h
  · refine ⟨_, Zak .nil mixed Tryz.func113 rfl rfl rfl ?_, rfl, rfl, h⟩
    rw [eMIn]; rename_i x m; unfold upto; cases decide (x ≥ 0) <;> rfl
  · exact h.elim
def mx (a b : Int) : Int := if b > a then b else a
def mx4 (a b c d : Int) : Int := mx (mx (mx a b) c) d
theorem eMx4 (a b c d : Int) (K : DV → Prop) : (ask Tryz.prog [] Tryz.f62 [.c (.s 0 1 [[vi a], [vi b], [vi c], [vi d]] [])] K) = K (I (mx4 a b c d)) := by kernel_rfl
def sMx : Spec := fun ds Q => match ds with | [.c (.s 0 1 [[.v (.int .i64 a)], [.v (.int .i64 b)], [.v (.int .i64 c)], [.v (.int .i64 d)]] [])] => Q (I (mx4 a b c d)) | _ => False
theorem oMx : Zad Tryz.prog 62 sMx := o_of Tryz.func62 (by kernel_rfl) rfl fun ds Q h => by
  unfold sMx at h; split at h
  · rename_i a b c d
    exact ⟨_, Zak .nil mixed Tryz.func62 rfl rfl rfl (by rw [eMx4]), rfl, rfl, h⟩
  · exact h.elim
end

section
open Go Go.Proofs
def SesD.on (q : SesD) (p r w : List (List Int)) : SesD := { q with pg := mZ p, rd := mZ r, wt := mZ w }
def ZaO (s : SesD) : Bool := okZ 4 s.pg && (okZ 3 s.rd && okZ 3 s.wt)
theorem Zob {s : SesD} (h : ZaO s = true) : s = s.on (toZ s.pg) (toZ s.rd) (toZ s.wt) ∧ (wid 4 (toZ s.pg) ∧ (toZ s.pg).length ≤ 9223372036854775807) ∧ (wid 3 (toZ s.rd) ∧ (toZ s.rd).length ≤ 9223372036854775807) ∧ (wid 3 (toZ s.wt) ∧ (toZ s.wt).length ≤ 9223372036854775807) := by
  unfold ZaO at h
  simp only [Bool.and_eq_true] at h
  obtain ⟨h1, h2, h3⟩ := h
  obtain ⟨a1, a2, a3⟩ := Zah h1
  obtain ⟨b1, b2, b3⟩ := Zah h2
  obtain ⟨c1, c2, c3⟩ := Zah h3
  refine ⟨?_, ⟨a2, by rw [Zan]; exact a3⟩, ⟨b2, by rw [Zan]; exact b3⟩, ⟨c2, by rw [Zan]; exact c3⟩⟩
  obtain ⟨id, lb, cl, pg, st, pc, r0, r1, r2, r3, rd, wt, at', sp, tr, rs, to⟩ := s
  simp only [SesD.on] at a1 b1 c1 ⊢
  rw [← a1, ← b1, ← c1]
def Zcb (R0 : List (List D)) (R1 : List (List D)) (R2 : List (List D)) (R3 : List (List D)) (q : SesD) (v : Bool) (i : Int) : X := ⟨mkT 70 [(2, .c (.rp 3 0 4 0 0)), (3, .c (.rp 4 0 17 0 0)), (4, ab v), (5, ai i)], [(3, .bx 0 4 [.d (.s 0 3 R0 []), .d (.s 0 3 R1 []), .d (.s 0 3 R2 []), .d (.s 0 3 R3 [])]), (4, .bx 0 17 ((sesL 0 q).map C.d))], [], []⟩
def Zfl (R0 : List (List D)) (R1 : List (List D)) (R2 : List (List D)) (R3 : List (List D)) (q : SesD) : Vw := fun y K => wB y 4 fun v => wI y 5 fun i => K (Zcb R0 R1 R2 R3 q v i)
theorem Zhs (R0 : List (List D)) (R1 : List (List D)) (R2 : List (List D)) (R3 : List (List D)) (q : SesD) : VwOK (Zfl R0 R1 R2 R3 q) := fun y K h => by
  unfold Zfl at h
  obtain ⟨v, h⟩ := ZdM h
  obtain ⟨i, h⟩ := Za7 h
  exact ⟨_, h⟩
theorem rWd1 (R0 : List (List D)) (R1 : List (List D)) (R2 : List (List D)) (R3 : List (List D)) (q : SesD) (v : Bool) (i : Int) (N : X → Prop) (E : Exit → X → Prop) : (ZaX Tryz.prog (hkA band bor [(164, Zfq)] []) Tryz.f120 0 [] [2, 3, 4, 5] [3, 4] (Zfl R0 R1 R2 R3 q) (fun _ => Zfl R0 R1 R2 R3 q) N E (Zcb R0 R1 R2 R3 q v i)) = (bif decide (i < @Nat.cast Int _ (List.length q.pg)) then bif decide (0 ≤ i) && decide (i < @Nat.cast Int _ (List.length q.pg)) then bif isJ [IntKind.i64] (List.drop (0) (List.getD q.pg (Int.toNat i) [])) then bif hdJ (List.drop (0) (List.getD q.pg (Int.toNat i) [])) == 2 then bif decide (0 ≤ i) && decide (i < @Nat.cast Int _ (List.length q.pg)) then bif isJ [IntKind.i64] (List.drop (2) (List.getD q.pg (Int.toNat i) [])) then bif decide (0 ≤ i) && decide (i < @Nat.cast Int _ (List.length q.pg)) then bif isJ [IntKind.i64] (List.drop (3) (List.getD q.pg (Int.toNat i) [])) then bif !thr (List.length R0) (List.length R1) (List.length R2) (List.length R3) (hdJ (List.drop (2) (List.getD q.pg (Int.toNat i) []))) (hdJ (List.drop (3) (List.getD q.pg (Int.toNat i) []))) then Zcb R0 R1 R2 R3 q false i = Zcb R0 R1 R2 R3 q false i ∧ E Exit.ret (Zcb R0 R1 R2 R3 q false i) else Zcb R0 R1 R2 R3 q v (IntKind.wrap IntKind.i64 (i + 1)) = Zcb R0 R1 R2 R3 q v (IntKind.wrap IntKind.i64 (i + 1)) ∧ N (Zcb R0 R1 R2 R3 q v (IntKind.wrap IntKind.i64 (i + 1))) else False else False else False else False else bif hdJ (List.drop (0) (List.getD q.pg (Int.toNat i) [])) == 3 then bif decide (0 ≤ i) && decide (i < @Nat.cast Int _ (List.length q.pg)) then bif isJ [IntKind.i64] (List.drop (2) (List.getD q.pg (Int.toNat i) [])) then bif decide (0 ≤ i) && decide (i < @Nat.cast Int _ (List.length q.pg)) then bif isJ [IntKind.i64] (List.drop (3) (List.getD q.pg (Int.toNat i) [])) then bif !thr (List.length R0) (List.length R1) (List.length R2) (List.length R3) (hdJ (List.drop (2) (List.getD q.pg (Int.toNat i) []))) (hdJ (List.drop (3) (List.getD q.pg (Int.toNat i) []))) then Zcb R0 R1 R2 R3 q false i = Zcb R0 R1 R2 R3 q false i ∧ E Exit.ret (Zcb R0 R1 R2 R3 q false i) else Zcb R0 R1 R2 R3 q v (IntKind.wrap IntKind.i64 (i + 1)) = Zcb R0 R1 R2 R3 q v (IntKind.wrap IntKind.i64 (i + 1)) ∧ N (Zcb R0 R1 R2 R3 q v (IntKind.wrap IntKind.i64 (i + 1))) else False else False else False else False else Zcb R0 R1 R2 R3 q v (IntKind.wrap IntKind.i64 (i + 1)) = Zcb R0 R1 R2 R3 q v (IntKind.wrap IntKind.i64 (i + 1)) ∧ N (Zcb R0 R1 R2 R3 q v (IntKind.wrap IntKind.i64 (i + 1))) else False else False else Zcb R0 R1 R2 R3 q v i = Zcb R0 R1 R2 R3 q v i ∧ E (Exit.exit (0)) (Zcb R0 R1 R2 R3 q v i)) := by kernel_rfl
def fWd1 (a b c d : List (List Int)) (q : SesD) (p r w : List (List Int)) : LSum := Zde [2, 3, 4, 5] [3, 4] (fun i => Zcb (mZ a) (mZ b) (mZ c) (mZ d) (q.on p r w) false i) (fun i => Zcb (mZ a) (mZ b) (mZ c) (mZ d) (q.on p r w) false i) p.length (fun i => noIn (mZ a) (mZ b) (mZ c) (mZ d) (p.getD i [])) .ret (.exit 0)
theorem kWd1 {a b c d : List (List Int)} {q : SesD} {p r w : List (List Int)} (hw : wid 4 p) (hn : p.length ≤ 9223372036854775807) (Q : Exit → X → Prop) (x : X) (h : fWd1 a b c d q p r w Q x) : XWP Tryz.prog (.loop (Zal Tryz.f120 0)) Q x := by
  refine Zbq (sw := []) (V := Zfl (mZ a) (mZ b) (mZ c) (mZ d) (q.on p r w)) (VE := fun _ => Zfl (mZ a) (mZ b) (mZ c) (mZ d) (q.on p r w)) mixed (Zhs (mZ a) (mZ b) (mZ c) (mZ d) (q.on p r w)) (fun _ => Zhs (mZ a) (mZ b) (mZ c) (mZ d) (q.on p r w)) _ _ _ _ _ _ (fun i hl => ⟨hkA band bor [(164, Zfq)] [], ZaJ (.cons ZjR .nil), Zae rfl, fun N E h1 h2 => ?_⟩) ⟨hkA band bor [(164, Zfq)] [], ZaJ (.cons ZjR .nil), Zae rfl, fun N E h1 => ?_⟩ Q x h
  · rw [rWd1]
    have wi : IntKind.wrap .i64 ((i : Int) + 1) = ((i + 1 : Nat) : Int) := Zaj (n := 1) (by omega)
    have a0 : isJ [IntKind.i64] ((mZ p).getD i []) = true := Zau (j := 0) (n := 1) hw hl (by omega)
    have a1 : isJ [IntKind.i64] (List.drop 1 ((mZ p).getD i [])) = true := Zau (j := 1) (n := 1) hw hl (by omega)
    have a2 : isJ [IntKind.i64] (List.drop 2 ((mZ p).getD i [])) = true := Zau (j := 2) (n := 1) hw hl (by omega)
    have a3 : isJ [IntKind.i64] (List.drop 3 ((mZ p).getD i [])) = true := Zau (j := 3) (n := 1) hw hl (by omega)
    have a9 : isJ [IntKind.i64, IntKind.i64, IntKind.i64, IntKind.i64] ((mZ p).getD i []) = true := Zau (j := 0) (n := 4) hw hl (by omega)
    simp only [SesD.on, Zai, Int.ofNat_lt, hl, decide_true, cond_true, Int.natCast_nonneg, Bool.and_self, Int.toNat_natCast, a0, a1, a2, a3, a9, List.drop_zero, ZaF, ZbS, ZaV, ZaT, Zbn, true_and, wi] at h1 h2 ⊢
    unfold noIn thW at h1 h2
    simp only [Zai] at h1 h2
    unfold isRW at h1 h2
    generalize thr a.length b.length c.length d.length ((p.getD i []).getD 2 0) ((p.getD i []).getD 3 0) = u at h1 h2 ⊢
    cases e2 : ((p.getD i []).getD 0 0 == 2) <;> cases e3 : ((p.getD i []).getD 0 0 == 3) <;> cases u <;> simp only [e2, e3, cond_true, cond_false, Bool.not_true, Bool.not_false, Bool.and_true, Bool.and_false, Bool.true_and, Bool.false_and, forall_const, reduceCtorEq, false_implies] at h1 h2 ⊢ <;> first | exact h1 | exact h2 | exact h1 trivial | exact h2 trivial
  · rw [rWd1]
    simp only [SesD.on, Zai, Int.ofNat_lt, Nat.lt_irrefl, decide_false, cond_false, true_and]
    exact h1
def Zeh (R0 : List (List D)) (R1 : List (List D)) (R2 : List (List D)) (R3 : List (List D)) (q : SesD) (v : Bool) (i : Int) : X := ⟨mkT 70 [(2, .c (.rp 3 0 4 0 0)), (3, .c (.rp 4 0 17 0 0)), (4, ab v), (7, ai i)], [(3, .bx 0 4 [.d (.s 0 3 R0 []), .d (.s 0 3 R1 []), .d (.s 0 3 R2 []), .d (.s 0 3 R3 [])]), (4, .bx 0 17 ((sesL 0 q).map C.d))], [], []⟩
def Zfb (R0 : List (List D)) (R1 : List (List D)) (R2 : List (List D)) (R3 : List (List D)) (q : SesD) : Vw := fun y K => wB y 4 fun v => wI y 7 fun i => K (Zeh R0 R1 R2 R3 q v i)
theorem Zh2 (R0 : List (List D)) (R1 : List (List D)) (R2 : List (List D)) (R3 : List (List D)) (q : SesD) : VwOK (Zfb R0 R1 R2 R3 q) := fun y K h => by
  unfold Zfb at h
  obtain ⟨v, h⟩ := ZdM h
  obtain ⟨i, h⟩ := Za7 h
  exact ⟨_, h⟩
theorem rWd2 (R0 : List (List D)) (R1 : List (List D)) (R2 : List (List D)) (R3 : List (List D)) (q : SesD) (v : Bool) (i : Int) (N : X → Prop) (E : Exit → X → Prop) : (ZaX Tryz.prog (hkA band bor [(164, Zfq)] []) Tryz.f120 1 [] [2, 3, 4, 7] [3, 4] (Zfb R0 R1 R2 R3 q) (fun _ => Zfb R0 R1 R2 R3 q) N E (Zeh R0 R1 R2 R3 q v i)) = (bif decide (i < @Nat.cast Int _ (List.length q.wt)) then bif decide (0 ≤ i) && decide (i < @Nat.cast Int _ (List.length q.wt)) then bif isJ [IntKind.i64] (List.drop (0) (List.getD q.wt (Int.toNat i) [])) then bif decide (0 ≤ i) && decide (i < @Nat.cast Int _ (List.length q.wt)) then bif isJ [IntKind.i64] (List.drop (1) (List.getD q.wt (Int.toNat i) [])) then bif !thr (List.length R0) (List.length R1) (List.length R2) (List.length R3) (hdJ (List.drop (0) (List.getD q.wt (Int.toNat i) []))) (hdJ (List.drop (1) (List.getD q.wt (Int.toNat i) []))) then Zeh R0 R1 R2 R3 q false i = Zeh R0 R1 R2 R3 q false i ∧ E Exit.ret (Zeh R0 R1 R2 R3 q false i) else Zeh R0 R1 R2 R3 q v (IntKind.wrap IntKind.i64 (i + 1)) = Zeh R0 R1 R2 R3 q v (IntKind.wrap IntKind.i64 (i + 1)) ∧ N (Zeh R0 R1 R2 R3 q v (IntKind.wrap IntKind.i64 (i + 1))) else False else False else False else False else Zeh R0 R1 R2 R3 q v i = Zeh R0 R1 R2 R3 q v i ∧ E (Exit.exit (2)) (Zeh R0 R1 R2 R3 q v i)) := by kernel_rfl
def fWd2 (a b c d : List (List Int)) (q : SesD) (p r w : List (List Int)) : LSum := Zde [2, 3, 4, 7] [3, 4] (fun i => Zeh (mZ a) (mZ b) (mZ c) (mZ d) (q.on p r w) false i) (fun i => Zeh (mZ a) (mZ b) (mZ c) (mZ d) (q.on p r w) false i) w.length (fun i => noWr (mZ a) (mZ b) (mZ c) (mZ d) (w.getD i [])) .ret (.exit 2)
theorem kWd2 {a b c d : List (List Int)} {q : SesD} {p r w : List (List Int)} (hw : wid 3 w) (hn : w.length ≤ 9223372036854775807) (Q : Exit → X → Prop) (x : X) (h : fWd2 a b c d q p r w Q x) : XWP Tryz.prog (.loop (Zal Tryz.f120 1)) Q x := by
  refine Zbq (sw := []) (V := Zfb (mZ a) (mZ b) (mZ c) (mZ d) (q.on p r w)) (VE := fun _ => Zfb (mZ a) (mZ b) (mZ c) (mZ d) (q.on p r w)) mixed (Zh2 (mZ a) (mZ b) (mZ c) (mZ d) (q.on p r w)) (fun _ => Zh2 (mZ a) (mZ b) (mZ c) (mZ d) (q.on p r w)) _ _ _ _ _ _ (fun i hl => ⟨hkA band bor [(164, Zfq)] [], ZaJ (.cons ZjR .nil), Zae rfl, fun N E h1 h2 => ?_⟩) ⟨hkA band bor [(164, Zfq)] [], ZaJ (.cons ZjR .nil), Zae rfl, fun N E h1 => ?_⟩ Q x h
  · rw [rWd2]
    have wi : IntKind.wrap .i64 ((i : Int) + 1) = ((i + 1 : Nat) : Int) := Zaj (n := 1) (by omega)
    have a0 : isJ [IntKind.i64] ((mZ w).getD i []) = true := Zau (j := 0) (n := 1) hw hl (by omega)
    have a1 : isJ [IntKind.i64] (List.drop 1 ((mZ w).getD i [])) = true := Zau (j := 1) (n := 1) hw hl (by omega)
    have a2 : isJ [IntKind.i64] (List.drop 2 ((mZ w).getD i [])) = true := Zau (j := 2) (n := 1) hw hl (by omega)
    have a9 : isJ [IntKind.i64, IntKind.i64, IntKind.i64] ((mZ w).getD i []) = true := Zau (j := 0) (n := 3) hw hl (by omega)
    simp only [SesD.on, Zai, Int.ofNat_lt, hl, decide_true, cond_true, Int.natCast_nonneg, Bool.and_self, Int.toNat_natCast, a0, a1, a2, a9, List.drop_zero, ZaF, ZbS, ZaV, ZaT, Zbn, true_and, wi] at h1 h2 ⊢
    unfold noWr thW at h1 h2
    simp only [Zai] at h1 h2
    generalize thr a.length b.length c.length d.length ((w.getD i []).getD 0 0) ((w.getD i []).getD 1 0) = u at h1 h2 ⊢
    cases u <;> simp only [cond_true, cond_false, Bool.not_true, Bool.not_false, forall_const, reduceCtorEq, false_implies] at h1 h2 ⊢ <;> first | exact h1 | exact h2 | exact h1 trivial | exact h2 trivial
  · rw [rWd2]
    simp only [SesD.on, Zai, Int.ofNat_lt, Nat.lt_irrefl, decide_false, cond_false, true_and]
    exact h1
theorem Ztr {P : Program} {l : List (FuncId × Spec)} {fn : Func} {k1 k2 : Nat} {s1 s2 : LSum} (hn : (Zbd (Zav fn)).length = 2) (e1 : ZbI (Zal fn 0) = k1) (e2 : ZbI (Zal fn 1) = k2) (hne : Nat.beq k1 k2 = false) (h1 : ∀ Q x, s1 Q x → XWP P (.loop (Zal fn 0)) Q x) (h2 : ∀ Q x, s2 Q x → XWP P (.loop (Zal fn 1)) Q x) : Zaz P (hkl l [(k1, s1), (k2, s2)]) (Zav fn) :=
  Zc9 2 hn fun i hi s hs Q x hq => by
    match i, hi with
    | 0, _ =>
      rw [e1] at hs
      have hs' : some s1 = some s := by simpa [Zdu, hkl, hkA, Zbm] using hs
      cases hs'
      exact h1 Q x hq
    | 1, _ =>
      rw [e2] at hs
      have hs' : some s2 = some s := by simpa [Zdu, hkl, hkA, Zbm, hne] using hs
      cases hs'
      exact h2 Q x hq
theorem eWds (a b c d : List (List Int)) (q : SesD) (p r w : List (List Int)) (K : DV → Prop) : (askL Tryz.prog [(164, Zfq), (165, sRT)] [(2, fWd1 a b c d q p r w), (8, fWd2 a b c d q p r w)] Tryz.f120 [.agg (wsL (mZ a) (mZ b) (mZ c) (mZ d)), .agg (sesL 0 (q.on p r w))] K) = (Zcb (mZ a) (mZ b) (mZ c) (mZ d) { id := q.id, lb := q.lb, cl := q.cl, pg := mZ p, st := q.st, pc := q.pc, r0 := q.r0, r1 := q.r1, r2 := q.r2, r3 := q.r3, rd := mZ r, wt := mZ w, at' := q.at', sp := q.sp, tr := q.tr, rs := q.rs, to := q.to } false (0) = Zcb (mZ a) (mZ b) (mZ c) (mZ d) { id := q.id, lb := q.lb, cl := q.cl, pg := mZ p, st := q.st, pc := q.pc, r0 := q.r0, r1 := q.r1, r2 := q.r2, r3 := q.r3, rd := mZ r, wt := mZ w, at' := q.at', sp := q.sp, tr := q.tr, rs := q.rs, to := q.to } false (0) ∧ (∀ (i : Nat), firstAt (fun i => noIn (mZ a) (mZ b) (mZ c) (mZ d) (List.getD p i [])) (List.length p) i → K (DV.c (D.v (Value.bool false)))) ∧ (noneTo (fun i => noIn (mZ a) (mZ b) (mZ c) (mZ d) (List.getD p i [])) (List.length p) → Zeh (mZ a) (mZ b) (mZ c) (mZ d) { id := q.id, lb := q.lb, cl := q.cl, pg := mZ p, st := q.st, pc := q.pc, r0 := q.r0, r1 := q.r1, r2 := q.r2, r3 := q.r3, rd := mZ r, wt := mZ w, at' := q.at', sp := q.sp, tr := q.tr, rs := q.rs, to := q.to } false (0) = Zeh (mZ a) (mZ b) (mZ c) (mZ d) { id := q.id, lb := q.lb, cl := q.cl, pg := mZ p, st := q.st, pc := q.pc, r0 := q.r0, r1 := q.r1, r2 := q.r2, r3 := q.r3, rd := mZ r, wt := mZ w, at' := q.at', sp := q.sp, tr := q.tr, rs := q.rs, to := q.to } false (0) ∧ (∀ (i : Nat), firstAt (fun i => noWr (mZ a) (mZ b) (mZ c) (mZ d) (List.getD w i [])) (List.length w) i → K (DV.c (D.v (Value.bool false)))) ∧ (noneTo (fun i => noWr (mZ a) (mZ b) (mZ c) (mZ d) (List.getD w i [])) (List.length w) → bif okA (mZ a) (mZ b) (mZ c) (mZ d) && okZ (3) (mZ r) then K (DV.c (D.v (Value.bool (List.all (toZ (mZ r)) (thv (toZ (mZ a)) (toZ (mZ b)) (toZ (mZ c)) (toZ (mZ d))))))) else False))) := by kernel_rfl
end

section
open Go Go.Proofs
def ZnR (R0 R1 R2 R3 : List (List D)) (s : SesD) : Bool := rmay (toZ s.rd) && (ZgC (toZ s.wt) && (!(toZ s.rd).any (noRd R0 R1 R2 R3) && (!(toZ s.wt).any (noWr R0 R1 R2 R3) && !(toZ s.pg).any (noIn R0 R1 R2 R3))))
def farB (s : SesD) : Bool := upto s.pc 0 s.pg.length && (upto s.at' 0 s.wt.length && (upto s.st 0 6 && upto s.rs 0 5))
def Zph (s : SesD) : Bool := v4 s.r0 s.r1 s.r2 s.r3 && (clk s.sp && (clk s.tr && val8 s.to))
def Zat (R0 R1 R2 R3 : List (List D)) (s : SesD) : Bool := smay s.id s.lb s.cl (toZ s.pg) && (ZnR R0 R1 R2 R3 s && (farB s && Zph s))
def stL0 (R0 : List (List D)) (R1 : List (List D)) (R2 : List (List D)) (R3 : List (List D)) (s : SesD)  : X := ⟨mkT 97 [(2, .c (.rp 3 0 1 0 0)), (3, .c (.rp 4 0 17 0 0))], [(3, .bx 0 1 [.d (.p 0 (wsL R0 R1 R2 R3) 0)]), (4, .bx 0 17 ((sesL 0 s).map C.d))], [], []⟩
def ZoW (R0 : List (List D)) (R1 : List (List D)) (R2 : List (List D)) (R3 : List (List D)) (s : SesD) : Vw := fun y K => K (stL0 R0 R1 R2 R3 s )
theorem ZpY (R0 : List (List D)) (R1 : List (List D)) (R2 : List (List D)) (R3 : List (List D)) (s : SesD) : VwOK (ZoW R0 R1 R2 R3 s) := fun y K h => by
  unfold ZoW at h
  exact ⟨_, h⟩
def stL1 (R0 : List (List D)) (R1 : List (List D)) (R2 : List (List D)) (R3 : List (List D)) (s : SesD) (b1 : Bool) : X := ⟨mkT 97 [(2, .c (.rp 3 0 1 0 0)), (3, .c (.rp 4 0 17 0 0)), (5, ab b1)], [(3, .bx 0 1 [.d (.p 0 (wsL R0 R1 R2 R3) 0)]), (4, .bx 0 17 ((sesL 0 s).map C.d))], [], []⟩
def Zpz (R0 : List (List D)) (R1 : List (List D)) (R2 : List (List D)) (R3 : List (List D)) (s : SesD) : Vw := fun y K => wB y 5 fun b1 => K (stL1 R0 R1 R2 R3 s b1)
theorem Zow (R0 : List (List D)) (R1 : List (List D)) (R2 : List (List D)) (R3 : List (List D)) (s : SesD) : VwOK (Zpz R0 R1 R2 R3 s) := fun y K h => by
  unfold Zpz at h
  obtain ⟨b1, h⟩ := ZdM h
  exact ⟨_, h⟩
def stL2 (R0 : List (List D)) (R1 : List (List D)) (R2 : List (List D)) (R3 : List (List D)) (s : SesD) (b1 : Bool) (b2 : Bool) : X := ⟨mkT 97 [(2, .c (.rp 3 0 1 0 0)), (3, .c (.rp 4 0 17 0 0)), (5, ab b1), (6, ab b2)], [(3, .bx 0 1 [.d (.p 0 (wsL R0 R1 R2 R3) 0)]), (4, .bx 0 17 ((sesL 0 s).map C.d))], [], []⟩
def Zp1 (R0 : List (List D)) (R1 : List (List D)) (R2 : List (List D)) (R3 : List (List D)) (s : SesD) : Vw := fun y K => wB y 5 fun b1 => wB y 6 fun b2 => K (stL2 R0 R1 R2 R3 s b1 b2)
theorem Zo1 (R0 : List (List D)) (R1 : List (List D)) (R2 : List (List D)) (R3 : List (List D)) (s : SesD) : VwOK (Zp1 R0 R1 R2 R3 s) := fun y K h => by
  unfold Zp1 at h
  obtain ⟨b1, h⟩ := ZdM h
  obtain ⟨b2, h⟩ := ZdM h
  exact ⟨_, h⟩
def stL3 (R0 : List (List D)) (R1 : List (List D)) (R2 : List (List D)) (R3 : List (List D)) (s : SesD) (b1 : Bool) (b2 : Bool) (b3 : Bool) : X := ⟨mkT 97 [(2, .c (.rp 3 0 1 0 0)), (3, .c (.rp 4 0 17 0 0)), (5, ab b1), (6, ab b2), (7, ab b3)], [(3, .bx 0 1 [.d (.p 0 (wsL R0 R1 R2 R3) 0)]), (4, .bx 0 17 ((sesL 0 s).map C.d))], [], []⟩
def Zon (R0 : List (List D)) (R1 : List (List D)) (R2 : List (List D)) (R3 : List (List D)) (s : SesD) : Vw := fun y K => wB y 5 fun b1 => wB y 6 fun b2 => wB y 7 fun b3 => K (stL3 R0 R1 R2 R3 s b1 b2 b3)
theorem ZoM (R0 : List (List D)) (R1 : List (List D)) (R2 : List (List D)) (R3 : List (List D)) (s : SesD) : VwOK (Zon R0 R1 R2 R3 s) := fun y K h => by
  unfold Zon at h
  obtain ⟨b1, h⟩ := ZdM h
  obtain ⟨b2, h⟩ := ZdM h
  obtain ⟨b3, h⟩ := ZdM h
  exact ⟨_, h⟩
def stL4 (R0 : List (List D)) (R1 : List (List D)) (R2 : List (List D)) (R3 : List (List D)) (s : SesD) (b : Bool) : X := ⟨mkT 97 [(4, ab b)], [], [], []⟩
def ZoL (R0 : List (List D)) (R1 : List (List D)) (R2 : List (List D)) (R3 : List (List D)) (s : SesD) : Vw := fun y K => wB y 4 fun b => K (stL4 R0 R1 R2 R3 s b)
theorem ZoK (R0 : List (List D)) (R1 : List (List D)) (R2 : List (List D)) (R3 : List (List D)) (s : SesD) : VwOK (ZoL R0 R1 R2 R3 s) := fun y K h => by
  unfold ZoL at h
  obtain ⟨b, h⟩ := ZdM h
  exact ⟨_, h⟩
theorem eL0 (R0 : List (List D)) (R1 : List (List D)) (R2 : List (List D)) (R3 : List (List D)) (s : SesD) (N : X → Prop) : (Zmd Tryz.prog (hk []) (partOf Tryz.f66 0) [2, 3] [3, 4] (ZoW R0 R1 R2 R3 s) N (Zb6 97 [.agg [.p 0 (wsL R0 R1 R2 R3) 0], .agg (sesL 0 s)])) = (stL0 R0 R1 R2 R3 s = stL0 R0 R1 R2 R3 s ∧ N (stL0 R0 R1 R2 R3 s)) := by kernel_rfl
theorem eL1 (R0 : List (List D)) (R1 : List (List D)) (R2 : List (List D)) (R3 : List (List D)) (s : SesD) (N : X → Prop) : (Zmd Tryz.prog (hk [(89, Zjg)]) (partOf Tryz.f66 1) [2, 3, 5] [3, 4] (Zpz R0 R1 R2 R3 s) N (stL0 R0 R1 R2 R3 s)) = (bif okZ (4) s.pg then stL1 R0 R1 R2 R3 s (smay s.id s.lb s.cl (toZ s.pg)) = stL1 R0 R1 R2 R3 s (smay s.id s.lb s.cl (toZ s.pg)) ∧ N (stL1 R0 R1 R2 R3 s (smay s.id s.lb s.cl (toZ s.pg))) else False) := by kernel_rfl
theorem eL2 (R0 : List (List D)) (R1 : List (List D)) (R2 : List (List D)) (R3 : List (List D)) (s : SesD) (b1 : Bool) (N : X → Prop) : (Zmd Tryz.prog (hk [(105, sRM), (106, sWMy), (107, Zpg), (109, ZoX), (111, Zpc)]) (partOf Tryz.f66 2) [2, 3, 5, 6] [3, 4] (Zp1 R0 R1 R2 R3 s) N (stL1 R0 R1 R2 R3 s b1)) = (bif okZ (3) s.rd then bif rmay (toZ s.rd) then bif okZ (3) s.wt then bif ZgC (toZ s.wt) then bif okZ (3) s.rd then bif !List.any (toZ s.rd) (noRd R0 R1 R2 R3) then bif okZ (3) s.wt then bif !List.any (toZ s.wt) (noWr R0 R1 R2 R3) then bif okZ (4) s.pg then (stL2 R0 R1 R2 R3 s b1 !List.any (toZ s.pg) (noIn R0 R1 R2 R3)) = stL2 R0 R1 R2 R3 s b1 !List.any (toZ s.pg) (noIn R0 R1 R2 R3) ∧ N (stL2 R0 R1 R2 R3 s b1 !List.any (toZ s.pg) (noIn R0 R1 R2 R3)) else False else stL2 R0 R1 R2 R3 s b1 false = stL2 R0 R1 R2 R3 s b1 false ∧ N (stL2 R0 R1 R2 R3 s b1 false) else False else stL2 R0 R1 R2 R3 s b1 false = stL2 R0 R1 R2 R3 s b1 false ∧ N (stL2 R0 R1 R2 R3 s b1 false) else False else stL2 R0 R1 R2 R3 s b1 false = stL2 R0 R1 R2 R3 s b1 false ∧ N (stL2 R0 R1 R2 R3 s b1 false) else False else stL2 R0 R1 R2 R3 s b1 false = stL2 R0 R1 R2 R3 s b1 false ∧ N (stL2 R0 R1 R2 R3 s b1 false) else False) := by kernel_rfl
theorem eL3 (R0 : List (List D)) (R1 : List (List D)) (R2 : List (List D)) (R3 : List (List D)) (s : SesD) (b1 : Bool) (b2 : Bool) (N : X → Prop) : (Zmd Tryz.prog (hk [(113, sIn)]) (partOf Tryz.f66 3) [2, 3, 5, 6, 7] [3, 4] (Zon R0 R1 R2 R3 s) N (stL2 R0 R1 R2 R3 s b1 b2)) = (bif upto s.pc (0) (@Nat.cast Int _ (List.length s.pg)) then bif upto s.at' (0) (@Nat.cast Int _ (List.length s.wt)) then bif upto s.st (0) (6) then stL3 R0 R1 R2 R3 s b1 b2 (upto s.rs (0) (5)) = stL3 R0 R1 R2 R3 s b1 b2 (upto s.rs (0) (5)) ∧ N (stL3 R0 R1 R2 R3 s b1 b2 (upto s.rs (0) (5))) else stL3 R0 R1 R2 R3 s b1 b2 false = stL3 R0 R1 R2 R3 s b1 b2 false ∧ N (stL3 R0 R1 R2 R3 s b1 b2 false) else stL3 R0 R1 R2 R3 s b1 b2 false = stL3 R0 R1 R2 R3 s b1 b2 false ∧ N (stL3 R0 R1 R2 R3 s b1 b2 false) else stL3 R0 R1 R2 R3 s b1 b2 false = stL3 R0 R1 R2 R3 s b1 b2 false ∧ N (stL3 R0 R1 R2 R3 s b1 b2 false)) := by kernel_rfl
theorem eL4 (R0 : List (List D)) (R1 : List (List D)) (R2 : List (List D)) (R3 : List (List D)) (s : SesD) (b1 : Bool) (b2 : Bool) (b3 : Bool) (N : X → Prop) : (Zmd Tryz.prog (hk [(114, sRgM), (102, sB clk), (115, sB val8)]) (partOf Tryz.f66 4) [4] [] (ZoL R0 R1 R2 R3 s) N (stL3 R0 R1 R2 R3 s b1 b2 b3)) = (bif b1 then bif b2 then bif b3 then bif v4 s.r0 s.r1 s.r2 s.r3 then bif clk s.sp then bif clk s.tr then stL4 R0 R1 R2 R3 s (val8 s.to) = stL4 R0 R1 R2 R3 s (val8 s.to) ∧ N (stL4 R0 R1 R2 R3 s (val8 s.to)) else stL4 R0 R1 R2 R3 s false = stL4 R0 R1 R2 R3 s false ∧ N (stL4 R0 R1 R2 R3 s false) else stL4 R0 R1 R2 R3 s false = stL4 R0 R1 R2 R3 s false ∧ N (stL4 R0 R1 R2 R3 s false) else stL4 R0 R1 R2 R3 s false = stL4 R0 R1 R2 R3 s false ∧ N (stL4 R0 R1 R2 R3 s false) else stL4 R0 R1 R2 R3 s false = stL4 R0 R1 R2 R3 s false ∧ N (stL4 R0 R1 R2 R3 s false) else stL4 R0 R1 R2 R3 s false = stL4 R0 R1 R2 R3 s false ∧ N (stL4 R0 R1 R2 R3 s false) else stL4 R0 R1 R2 R3 s false = stL4 R0 R1 R2 R3 s false ∧ N (stL4 R0 R1 R2 R3 s false)) := by kernel_rfl
theorem eL5 (R0 : List (List D)) (R1 : List (List D)) (R2 : List (List D)) (R3 : List (List D)) (s : SesD) (b : Bool) (K : DV → Prop) : (evp Tryz.prog (hk []) 200 (partOf Tryz.f66 5) (fun e y => match e with | .normal => finX Tryz.prog Tryz.f66 K .normal y | e => finX Tryz.prog Tryz.f66 K e y) (stL4 R0 R1 R2 R3 s b)) = (K (DV.c (D.v (Value.bool b)))) := by kernel_rfl
theorem Zuo : seqs (Zav Tryz.f66) = [partOf Tryz.f66 0, partOf Tryz.f66 1, partOf Tryz.f66 2, partOf Tryz.f66 3, partOf Tryz.f66 4, partOf Tryz.f66 5] := by kernel_rfl
theorem cLS (R0 R1 R2 R3 : List (List D)) (s : SesD) (hs : ZaO s = true) : CT Tryz.prog 66 [.agg [.p 0 (wsL R0 R1 R2 R3) 0], .agg (sesL 0 s)] (B (Zat R0 R1 R2 R3 s)) := by
  unfold ZaO at hs
  simp only [Bool.and_eq_true] at hs
  obtain ⟨h1, h2, h3⟩ := hs
  refine Zo2 Tryz.func66 (c := Zav Tryz.f66) rfl (Nat.le_of_ble_eq_true rfl) rfl (Zrn _ _ _ ?_)
  rw [Zuo]
  refine Zhb (ts := [2, 3]) (ks := [3, 4]) (Zma .nil) mixed ZbW (by simp) (ZpY R0 R1 R2 R3 s) ?_
  show Zmd Tryz.prog _ _ _ _ _ _ (Zb6 97 _)
  rw [eL0]
  refine ⟨rfl, Zhb (ts := [2, 3, 5]) (ks := [3, 4]) (Zma (.cons Ztk .nil)) mixed ZbW (by simp) (Zow R0 R1 R2 R3 s) ?_⟩
  rw [eL1]
  simp only [h1, cond_true]
  refine ⟨trivial, ?_⟩
  generalize hb1 : smay s.id s.lb s.cl (toZ s.pg) = b1
  refine Zhb (ts := [2, 3, 5, 6]) (ks := [3, 4]) (Zma (.cons oRM (.cons oWMy (.cons ZuC (.cons Zvh (.cons Zt3 .nil)))))) mixed ZbW (by simp) (Zo1 R0 R1 R2 R3 s) ?_
  suffices key2 : XS Tryz.prog [partOf Tryz.f66 3, partOf Tryz.f66 4, partOf Tryz.f66 5] (finX Tryz.prog Tryz.f66 fun r => r = B (Zat R0 R1 R2 R3 s)) (stL2 R0 R1 R2 R3 s b1 (ZnR R0 R1 R2 R3 s)) by
    rw [eL2]
    simp only [h1, h2, h3, cond_true]
    unfold ZnR at key2
    cases q1 : rmay (toZ s.rd) <;> cases q2 : ZgC (toZ s.wt) <;> cases q3 : !(toZ s.rd).any (noRd R0 R1 R2 R3) <;> cases q4 : !(toZ s.wt).any (noWr R0 R1 R2 R3) <;> cases q5 : !(toZ s.pg).any (noIn R0 R1 R2 R3) <;>
      simp only [q1, q2, q3, q4, q5, cond_true, cond_false, Bool.and_true, Bool.and_false, Bool.true_and, Bool.false_and, true_and] at key2 ⊢ <;> exact key2
  generalize hb2 : ZnR R0 R1 R2 R3 s = b2
  refine Zhb (ts := [2, 3, 5, 6, 7]) (ks := [3, 4]) (Zma (.cons oMIn .nil)) mixed ZbW (by simp) (ZoM R0 R1 R2 R3 s) ?_
  suffices key3 : XS Tryz.prog [partOf Tryz.f66 4, partOf Tryz.f66 5] (finX Tryz.prog Tryz.f66 fun r => r = B (Zat R0 R1 R2 R3 s)) (stL3 R0 R1 R2 R3 s b1 b2 (farB s)) by
    rw [eL3]
    unfold farB at key3
    cases q1 : upto s.pc 0 s.pg.length <;> cases q2 : upto s.at' 0 s.wt.length <;> cases q3 : upto s.st 0 6 <;> cases q4 : upto s.rs 0 5 <;>
      simp only [q1, q2, q3, q4, cond_true, cond_false, Bool.and_true, Bool.and_false, Bool.true_and, Bool.false_and, true_and] at key3 ⊢ <;> exact key3
  generalize hb3 : farB s = b3
  refine Zhb (ts := [4]) (ks := []) (Zma (.cons oRgM (.cons oClk (.cons oVal .nil)))) mixed ZbW (by simp) (ZoK R0 R1 R2 R3 s) ?_
  suffices key4 : XS Tryz.prog [partOf Tryz.f66 5] (finX Tryz.prog Tryz.f66 fun r => r = B (Zat R0 R1 R2 R3 s)) (stL4 R0 R1 R2 R3 s (b1 && (b2 && (b3 && Zph s)))) by
    rw [eL4]
    unfold Zph at key4
    cases b1 <;> cases b2 <;> cases b3 <;> cases q1 : v4 s.r0 s.r1 s.r2 s.r3 <;> cases q2 : clk s.sp <;> cases q3 : clk s.tr <;> cases q4 : val8 s.to <;>
      simp only [q1, q2, q3, q4, cond_true, cond_false, Bool.and_true, Bool.and_false, Bool.true_and, Bool.false_and, true_and] at key4 ⊢ <;> exact key4
  refine ZsO (Zma .nil) mixed ZbW ?_
  have h5 := eL5 R0 R1 R2 R3 s (b1 && (b2 && (b3 && Zph s))) (fun r => r = B (Zat R0 R1 R2 R3 s))
  refine h5.mpr ?_
  rw [← hb1, ← hb2, ← hb3]; rfl
end

section
open Go Go.Proofs
def sLS : Spec := fun ds Q => match ds with
  | [.agg [p], e] => Znc p fun R0 R1 R2 R3 => sesA e fun s => cond (ZaO s) (Q (B (Zat R0 R1 R2 R3 s))) False
  | _ => False
theorem oLS : Zad Tryz.prog 66 sLS := o_al Tryz.func66 (by kernel_rfl) rfl fun ds Q h => by
  unfold sLS at h; split at h
  · obtain ⟨R0, R1, R2, R3, h, r1, e1⟩ := Zgz h
    obtain ⟨s, h, r2⟩ := ZbN h
    obtain ⟨h1, h2⟩ := Zag h
    exact ⟨_, _, .cons (.agg (.cons r1 .nil) (by simp [e1]) rfl) (.cons r2 .nil), cLS R0 R1 R2 R3 s h1, rfl, rfl, h2⟩
  · exact h.elim
theorem eA1S (R0 R1 R2 R3 : List (List D)) (s : SesD) (K : DV → Prop) : (ask Tryz.prog [(66, sLS)] Tryz.f104 [.agg (sesL 0 s), .c (.p 0 [.f 66 [.f AG [] [.p 0 (wsL R0 R1 R2 R3) 0]] []] 0)] K) = (bif ZaO s then K (DV.c (D.v (Value.bool !Zat R0 R1 R2 R3 s))) else False) := by kernel_rfl
def sA1S : Spec := fun ds Q => match ds with
  | [e, .c (.p _ [c] 0)] => sesA e fun s => ZgU 66 c fun R0 R1 R2 R3 => cond (ZaO s) (Q (B (!Zat R0 R1 R2 R3 s))) False
  | _ => False
theorem oA1S : Zad Tryz.prog 104 sA1S := o_al Tryz.func104 (by kernel_rfl) rfl fun ds Q h => by
  unfold sA1S at h; split at h
  · obtain ⟨s, h, r2⟩ := ZbN h
    obtain ⟨R0, R1, R2, R3, h, r1, e1⟩ := Zck (by decide) h
    obtain ⟨h1, h2⟩ := Zag h
    exact ⟨_, _, .cons r2 (.cons (.c (RD.cells (t' := 0) (.cons r1 .nil)) rfl rfl) .nil), Zak (.cons oLS .nil) mixed Tryz.func104 rfl rfl rfl (by rw [eA1S, h1]; rfl), rfl, rfl, h2⟩
  · exact h.elim
def iIxS : Inl := inlB Tryz.prog band bor [(104, sA1S)] [] [] Tryz.f152
def iCoS : Inl := inlB Tryz.prog band bor [] [] [(152, iIxS)] Tryz.f103
theorem ZtD : Zbt Tryz.prog 152 iIxS := Zqb (.cons oA1S .nil) .nil .nil mixed Tryz.func152 rfl (Zaq Tryz.func152 (by kernel_rfl) rfl)
theorem Zg8 : Zbt Tryz.prog 103 iCoS := Zqb .nil .nil (.cons ZtD .nil) mixed Tryz.func103 rfl (Zaq Tryz.func103 (by kernel_rfl) rfl)
theorem bifN (p q : Bool) (x : DV) : (bif !p then (DV.c (.v (.bool false)) = x) else (DV.c (.v (.bool q)) = x)) = (DV.c (.v (.bool (p && q))) = x) := by cases p <;> rfl
theorem Zvk (R0 R1 R2 R3 : List (List D)) (K : DV → Prop) : (askX Tryz.prog band bor [] [] [(103, iCoS)] Tryz.f65 [.c (.s 0 17 ([].map (sesL 0)) []), .c (.f 66 [.f AG [] [.p 0 (wsL R0 R1 R2 R3) 0]] [])] K) = (K (DV.c (D.v (Value.bool true)))) := by kernel_rfl
theorem ZtM (R0 R1 R2 R3 : List (List D)) (s0 : SesD) (K : DV → Prop) : (askX Tryz.prog band bor [] [] [(103, iCoS)] Tryz.f65 [.c (.s 0 17 ([s0].map (sesL 0)) []), .c (.f 66 [.f AG [] [.p 0 (wsL R0 R1 R2 R3) 0]] [])] K) = (bif ZaO s0 then bif !Zat R0 R1 R2 R3 s0 then K (DV.c (D.v (Value.bool false))) else K (DV.c (D.v (Value.bool true))) else False) := by kernel_rfl
theorem Zu2 (R0 R1 R2 R3 : List (List D)) (s0 s1 : SesD) (K : DV → Prop) : (askX Tryz.prog band bor [] [] [(103, iCoS)] Tryz.f65 [.c (.s 0 17 ([s0, s1].map (sesL 0)) []), .c (.f 66 [.f AG [] [.p 0 (wsL R0 R1 R2 R3) 0]] [])] K) = (bif ZaO s0 then bif !Zat R0 R1 R2 R3 s0 then K (DV.c (D.v (Value.bool false))) else bif ZaO s1 then bif !Zat R0 R1 R2 R3 s1 then K (DV.c (D.v (Value.bool false))) else K (DV.c (D.v (Value.bool true))) else False else False) := by kernel_rfl
theorem Zva (R0 R1 R2 R3 : List (List D)) (s0 s1 s2 : SesD) (K : DV → Prop) : (askX Tryz.prog band bor [] [] [(103, iCoS)] Tryz.f65 [.c (.s 0 17 ([s0, s1, s2].map (sesL 0)) []), .c (.f 66 [.f AG [] [.p 0 (wsL R0 R1 R2 R3) 0]] [])] K) = (bif ZaO s0 then bif !Zat R0 R1 R2 R3 s0 then K (DV.c (D.v (Value.bool false))) else bif ZaO s1 then bif !Zat R0 R1 R2 R3 s1 then K (DV.c (D.v (Value.bool false))) else bif ZaO s2 then bif !Zat R0 R1 R2 R3 s2 then K (DV.c (D.v (Value.bool false))) else K (DV.c (D.v (Value.bool true))) else False else False else False) := by kernel_rfl
theorem Zt0 (R0 R1 R2 R3 : List (List D)) (s0 s1 s2 s3 : SesD) (K : DV → Prop) : (askX Tryz.prog band bor [] [] [(103, iCoS)] Tryz.f65 [.c (.s 0 17 ([s0, s1, s2, s3].map (sesL 0)) []), .c (.f 66 [.f AG [] [.p 0 (wsL R0 R1 R2 R3) 0]] [])] K) = (bif ZaO s0 then bif !Zat R0 R1 R2 R3 s0 then K (DV.c (D.v (Value.bool false))) else bif ZaO s1 then bif !Zat R0 R1 R2 R3 s1 then K (DV.c (D.v (Value.bool false))) else bif ZaO s2 then bif !Zat R0 R1 R2 R3 s2 then K (DV.c (D.v (Value.bool false))) else bif ZaO s3 then bif !Zat R0 R1 R2 R3 s3 then K (DV.c (D.v (Value.bool false))) else K (DV.c (D.v (Value.bool true))) else False else False else False else False) := by kernel_rfl
def okSS (ss : List SesD) : Bool := ss.all ZaO
theorem ZwR (R0 R1 R2 R3 : List (List D)) : ∀ (ss : List SesD), ss.length ≤ 4 → okSS ss = true → CT Tryz.prog 65 [.c (.s 0 17 (ss.map (sesL 0)) []), .c (.f 66 [.f AG [] [.p 0 (wsL R0 R1 R2 R3) 0]] [])] (B (ss.all (Zat R0 R1 R2 R3))) := by
  intro ss hl hok
  unfold okSS at hok
  rcases ss with _ | ⟨s0, _ | ⟨s1, _ | ⟨s2, _ | ⟨s3, _ | ⟨s4, l⟩⟩⟩⟩⟩
  · refine ct_x .nil .nil (.cons Zg8 .nil) mixed Tryz.func65 rfl rfl rfl ?_
    rw [Zvk]
    refine ⟨?_⟩
    simp only [List.all_cons, List.all_nil, Bool.and_eq_true, Bool.and_true] at hok
    simp only [hok, cond_true, List.all_cons, List.all_nil, bifN, Bool.and_true, Bool.and_assoc]
  · refine ct_x .nil .nil (.cons Zg8 .nil) mixed Tryz.func65 rfl rfl rfl ?_
    rw [ZtM]
    refine ⟨?_⟩
    simp only [List.all_cons, List.all_nil, Bool.and_eq_true, Bool.and_true] at hok
    simp only [hok, cond_true, List.all_cons, List.all_nil, bifN, Bool.and_true, Bool.and_assoc]
  · refine ct_x .nil .nil (.cons Zg8 .nil) mixed Tryz.func65 rfl rfl rfl ?_
    rw [Zu2]
    refine ⟨?_⟩
    simp only [List.all_cons, List.all_nil, Bool.and_eq_true, Bool.and_true] at hok
    simp only [hok, cond_true, List.all_cons, List.all_nil, bifN, Bool.and_true, Bool.and_assoc]
  · refine ct_x .nil .nil (.cons Zg8 .nil) mixed Tryz.func65 rfl rfl rfl ?_
    rw [Zva]
    refine ⟨?_⟩
    simp only [List.all_cons, List.all_nil, Bool.and_eq_true, Bool.and_true] at hok
    simp only [hok, cond_true, List.all_cons, List.all_nil, bifN, Bool.and_true, Bool.and_assoc]
  · refine ct_x .nil .nil (.cons Zg8 .nil) mixed Tryz.func65 rfl rfl rfl ?_
    rw [Zt0]
    refine ⟨?_⟩
    simp only [List.all_cons, List.all_nil, Bool.and_eq_true, Bool.and_true] at hok
    simp only [hok, cond_true, List.all_cons, List.all_nil, bifN, Bool.and_true, Bool.and_assoc]
  · simp at hl
def Zmr : Spec := fun ds Q => match ds with
  | [.c d, .c e] => cond d.isOwn False (ZmD d fun ss => ZgU 66 e fun R0 R1 R2 R3 => cond (Nat.ble ss.length 4 && okSS ss) (Q (B (ss.all (Zat R0 R1 R2 R3)))) False)
  | _ => False
theorem Zo4 : Zad Tryz.prog 65 Zmr := o_al Tryz.func65 (by kernel_rfl) rfl fun ds Q h => by
  unfold Zmr at h; split at h
  · rename_i d e
    cases hd : d.isOwn with
    | true => rw [hd] at h; exact h.elim
    | false =>
      rw [hd] at h
      obtain ⟨ss, h, r1⟩ := Zes h
      obtain ⟨R0, R1, R2, R3, h, r2, e2⟩ := Zck (by decide) h
      obtain ⟨h1, h2⟩ := Zag h
      rw [Bool.and_eq_true] at h1
      exact ⟨_, _, .cons (.c r1 hd rfl) (.cons (.c r2 e2 rfl) .nil), ZwR R0 R1 R2 R3 ss (Nat.le_of_ble_eq_true h1.1) h1.2, rfl, rfl, h2⟩
  · exact h.elim
def ZdB : List SesD → Bool
  | a :: b :: l => !decide (a.id ≥ b.id) && ZdB (b :: l)
  | _ => true
def clkB (h : Mh) : Bool := ck4 h.c0 h.c1 h.c2 h.c3 && clk h.ce
def mmay (h : Mh) (ss : List SesD) : Bool := amay (toZ h.w0) (toZ h.w1) (toZ h.w2) (toZ h.w3) && (clkB h && (!decide (mx4 h.c0 h.c1 h.c2 h.c3 > h.ce) && (!decide ((ss.length : Int) > 4) && (!decide ((h.tr.length : Int) > 512) && (ZdB ss && (ss.all (Zat h.w0 h.w1 h.w2 h.w3) && !(toZ h.tr).any noEv))))))
def okM (h : Mh) (ss : List SesD) : Bool := okA h.w0 h.w1 h.w2 h.w3 && (okZ 4 h.tr && okSS ss)
theorem eMM0 (h : Mh) (K : DV → Prop) : (ask Tryz.prog [(60, Zce), (61, sCkM), (62, sMx), (65, Zmr), (67, Zgh)] Tryz.f26 [.agg (macL 0 h [])] K) = (bif okA h.w0 h.w1 h.w2 h.w3 then bif !amay (toZ h.w0) (toZ h.w1) (toZ h.w2) (toZ h.w3) then K (DV.c (D.v (Value.bool false))) else bif !(ck4 h.c0 h.c1 h.c2 h.c3 && clk h.ce) then K (DV.c (D.v (Value.bool false))) else bif decide (mx4 h.c0 h.c1 h.c2 h.c3 > h.ce) then K (DV.c (D.v (Value.bool false))) else bif decide (@Nat.cast Int _ (List.length h.tr) > 512) then K (DV.c (D.v (Value.bool false))) else bif okZ (4) h.tr then K (DV.c (D.v (Value.bool !List.any (toZ h.tr) noEv))) else False else False) := by kernel_rfl
theorem eMM1 (h : Mh) (s0 : SesD) (K : DV → Prop) : (ask Tryz.prog [(60, Zce), (61, sCkM), (62, sMx), (65, Zmr), (67, Zgh)] Tryz.f26 [.agg (macL 0 h [s0])] K) = (bif okA h.w0 h.w1 h.w2 h.w3 then bif !amay (toZ h.w0) (toZ h.w1) (toZ h.w2) (toZ h.w3) then K (DV.c (D.v (Value.bool false))) else bif !(ck4 h.c0 h.c1 h.c2 h.c3 && clk h.ce) then K (DV.c (D.v (Value.bool false))) else bif decide (mx4 h.c0 h.c1 h.c2 h.c3 > h.ce) then K (DV.c (D.v (Value.bool false))) else bif decide (@Nat.cast Int _ (List.length h.tr) > 512) then K (DV.c (D.v (Value.bool false))) else bif Nat.ble (1) (OfNat.ofNat (4)) && okSS [s0] then bif List.all [s0] (Zat h.w0 h.w1 h.w2 h.w3) then bif okZ (4) h.tr then K (DV.c (D.v (Value.bool !List.any (toZ h.tr) noEv))) else False else K (DV.c (D.v (Value.bool false))) else False else False) := by kernel_rfl
theorem eMM2 (h : Mh) (s0 s1 : SesD) (K : DV → Prop) : (ask Tryz.prog [(60, Zce), (61, sCkM), (62, sMx), (65, Zmr), (67, Zgh)] Tryz.f26 [.agg (macL 0 h [s0, s1])] K) = (bif okA h.w0 h.w1 h.w2 h.w3 then bif !amay (toZ h.w0) (toZ h.w1) (toZ h.w2) (toZ h.w3) then K (DV.c (D.v (Value.bool false))) else bif !(ck4 h.c0 h.c1 h.c2 h.c3 && clk h.ce) then K (DV.c (D.v (Value.bool false))) else bif decide (mx4 h.c0 h.c1 h.c2 h.c3 > h.ce) then K (DV.c (D.v (Value.bool false))) else bif decide (@Nat.cast Int _ (List.length h.tr) > 512) then K (DV.c (D.v (Value.bool false))) else bif decide (s0.id ≥ s1.id) then K (DV.c (D.v (Value.bool false))) else bif Nat.ble (2) (OfNat.ofNat (4)) && okSS [s0, s1] then bif List.all [s0, s1] (Zat h.w0 h.w1 h.w2 h.w3) then bif okZ (4) h.tr then K (DV.c (D.v (Value.bool !List.any (toZ h.tr) noEv))) else False else K (DV.c (D.v (Value.bool false))) else False else False) := by kernel_rfl
theorem eMM3 (h : Mh) (s0 s1 s2 : SesD) (K : DV → Prop) : (ask Tryz.prog [(60, Zce), (61, sCkM), (62, sMx), (65, Zmr), (67, Zgh)] Tryz.f26 [.agg (macL 0 h [s0, s1, s2])] K) = (bif okA h.w0 h.w1 h.w2 h.w3 then bif !amay (toZ h.w0) (toZ h.w1) (toZ h.w2) (toZ h.w3) then K (DV.c (D.v (Value.bool false))) else bif !(ck4 h.c0 h.c1 h.c2 h.c3 && clk h.ce) then K (DV.c (D.v (Value.bool false))) else bif decide (mx4 h.c0 h.c1 h.c2 h.c3 > h.ce) then K (DV.c (D.v (Value.bool false))) else bif decide (@Nat.cast Int _ (List.length h.tr) > 512) then K (DV.c (D.v (Value.bool false))) else bif decide (s0.id ≥ s1.id) then K (DV.c (D.v (Value.bool false))) else bif decide (s1.id ≥ s2.id) then K (DV.c (D.v (Value.bool false))) else bif Nat.ble (3) (OfNat.ofNat (4)) && okSS [s0, s1, s2] then bif List.all [s0, s1, s2] (Zat h.w0 h.w1 h.w2 h.w3) then bif okZ (4) h.tr then K (DV.c (D.v (Value.bool !List.any (toZ h.tr) noEv))) else False else K (DV.c (D.v (Value.bool false))) else False else False) := by kernel_rfl
theorem eMM4 (h : Mh) (s0 s1 s2 s3 : SesD) (K : DV → Prop) : (ask Tryz.prog [(60, Zce), (61, sCkM), (62, sMx), (65, Zmr), (67, Zgh)] Tryz.f26 [.agg (macL 0 h [s0, s1, s2, s3])] K) = (bif okA h.w0 h.w1 h.w2 h.w3 then bif !amay (toZ h.w0) (toZ h.w1) (toZ h.w2) (toZ h.w3) then K (DV.c (D.v (Value.bool false))) else bif !(ck4 h.c0 h.c1 h.c2 h.c3 && clk h.ce) then K (DV.c (D.v (Value.bool false))) else bif decide (mx4 h.c0 h.c1 h.c2 h.c3 > h.ce) then K (DV.c (D.v (Value.bool false))) else bif decide (@Nat.cast Int _ (List.length h.tr) > 512) then K (DV.c (D.v (Value.bool false))) else bif decide (s0.id ≥ s1.id) then K (DV.c (D.v (Value.bool false))) else bif decide (s1.id ≥ s2.id) then K (DV.c (D.v (Value.bool false))) else bif decide (s2.id ≥ s3.id) then K (DV.c (D.v (Value.bool false))) else bif Nat.ble (4) (OfNat.ofNat (4)) && okSS [s0, s1, s2, s3] then bif List.all [s0, s1, s2, s3] (Zat h.w0 h.w1 h.w2 h.w3) then bif okZ (4) h.tr then K (DV.c (D.v (Value.bool !List.any (toZ h.tr) noEv))) else False else K (DV.c (D.v (Value.bool false))) else False else False) := by kernel_rfl
theorem eMMB (h : Mh) (R sp : List (List D)) (K : DV → Prop) : (askL Tryz.prog [(60, Zce), (61, sCkM), (62, sMx)] [(4, fun _ _ => False)] Tryz.f26 [.agg [.s 0 3 h.w0 [], .s 0 3 h.w1 [], .s 0 3 h.w2 [], .s 0 3 h.w3 [], vN h.c0, vN h.c1, vN h.c2, vN h.c3, vN h.ce, .s 0 17 R sp, .s 0 4 h.tr []]] K) = (bif okA h.w0 h.w1 h.w2 h.w3 then bif !amay (toZ h.w0) (toZ h.w1) (toZ h.w2) (toZ h.w3) then K (DV.c (D.v (Value.bool false))) else bif !(ck4 h.c0 h.c1 h.c2 h.c3 && clk h.ce) then K (DV.c (D.v (Value.bool false))) else bif decide (mx4 h.c0 h.c1 h.c2 h.c3 > h.ce) then K (DV.c (D.v (Value.bool false))) else bif decide (@Nat.cast Int _ (List.length R) > 4) then K (DV.c (D.v (Value.bool false))) else bif decide (@Nat.cast Int _ (List.length h.tr) > 512) then K (DV.c (D.v (Value.bool false))) else False else False) := by kernel_rfl
theorem bifP (p q : Bool) (x : DV) : (bif p then (DV.c (.v (.bool false)) = x) else (DV.c (.v (.bool q)) = x)) = (DV.c (.v (.bool (!p && q))) = x) := by cases p <;> rfl
theorem Zmx {P : Program} {l : List (FuncId × Spec)} {k : Nat} {c : Code} : Zaz P (hkl l [(k, fun _ _ => False)]) c := fun b hb s hs Q x hq => by
  have hs' : Zdu [(k, fun _ _ => False)] (ZbI b) = some s := hs
  unfold Zdu at hs'
  split at hs'
  · cases hs'; exact hq.elim
  · cases hs'
theorem Zby {h : Mh} {ss : List SesD} (hm : okM h ss = true) : okA h.w0 h.w1 h.w2 h.w3 = true ∧ okZ 4 h.tr = true ∧ okSS ss = true := by
  unfold okM at hm; simpa [Bool.and_eq_true] using hm
theorem Zpr (h : Mh) (ss : List SesD) (hok : okM h ss = true) : CT Tryz.prog 26 [.agg (macL 0 h ss)] (B (mmay h ss)) := by
  obtain ⟨h1, h2, h3⟩ := Zby hok
  rcases ss with _ | ⟨s0, _ | ⟨s1, _ | ⟨s2, _ | ⟨s3, _ | ⟨s4, l⟩⟩⟩⟩⟩
  · refine ct_s (.cons Zj1 (.cons oCkM (.cons oMx (.cons Zo4 (.cons Zja .nil))))) mixed Tryz.func26 rfl rfl rfl ?_
    rw [eMM0]
    refine ⟨?_⟩
    simp only [h1, h2, h3, cond_true, bifN, bifP, bifK, Bool.and_true, (by decide : Nat.ble 0 4 = true), Bool.true_and]
    unfold mmay clkB
    simp [ZdB, Bool.and_assoc]
  · refine ct_s (.cons Zj1 (.cons oCkM (.cons oMx (.cons Zo4 (.cons Zja .nil))))) mixed Tryz.func26 rfl rfl rfl ?_
    rw [eMM1]
    refine ⟨?_⟩
    simp only [h1, h2, h3, cond_true, bifN, bifP, bifK, Bool.and_true, (by decide : Nat.ble 1 4 = true), Bool.true_and]
    unfold mmay clkB
    simp [ZdB, Bool.and_assoc]
  · refine ct_s (.cons Zj1 (.cons oCkM (.cons oMx (.cons Zo4 (.cons Zja .nil))))) mixed Tryz.func26 rfl rfl rfl ?_
    rw [eMM2]
    refine ⟨?_⟩
    simp only [h1, h2, h3, cond_true, bifN, bifP, bifK, Bool.and_true, (by decide : Nat.ble 2 4 = true), Bool.true_and]
    unfold mmay clkB
    simp [ZdB, Bool.and_assoc]
  · refine ct_s (.cons Zj1 (.cons oCkM (.cons oMx (.cons Zo4 (.cons Zja .nil))))) mixed Tryz.func26 rfl rfl rfl ?_
    rw [eMM3]
    refine ⟨?_⟩
    simp only [h1, h2, h3, cond_true, bifN, bifP, bifK, Bool.and_true, (by decide : Nat.ble 3 4 = true), Bool.true_and]
    unfold mmay clkB
    simp [ZdB, Bool.and_assoc]
  · refine ct_s (.cons Zj1 (.cons oCkM (.cons oMx (.cons Zo4 (.cons Zja .nil))))) mixed Tryz.func26 rfl rfl rfl ?_
    rw [eMM4]
    refine ⟨?_⟩
    simp only [h1, h2, h3, cond_true, bifN, bifP, bifK, Bool.and_true, (by decide : Nat.ble 4 4 = true), Bool.true_and]
    unfold mmay clkB
    simp [ZdB, Bool.and_assoc]
  · refine Zjk (l := [(60, Zce), (61, sCkM), (62, sMx)]) (m := [(4, fun _ _ => False)]) (.cons Zj1 (.cons oCkM (.cons oMx .nil))) mixed Zmx Tryz.func26 rfl rfl rfl ?_
    unfold macL
    rw [eMMB]
    refine ⟨?_⟩
    have h5 : decide (((List.map (sesL 0) (s0 :: s1 :: s2 :: s3 :: s4 :: l)).length : Int) > 4) = true := by simp; omega
    have h6 : decide (((s0 :: s1 :: s2 :: s3 :: s4 :: l).length : Int) > 4) = true := by simp; omega
    unfold mmay clkB
    simp only [h1, h5, h6, cond_true, bifN, bifP, Bool.not_true, Bool.false_and, Bool.not_not]
def Zqy : Spec := fun ds Q => match ds with
  | [d] => macA d fun h ss => cond (okM h ss) (Q (B (mmay h ss))) False
  | _ => False
theorem Zt4 : Zad Tryz.prog 26 Zqy := o_al Tryz.func26 (by kernel_rfl) rfl fun ds Q h => by
  unfold Zqy at h; split at h
  · obtain ⟨m, ss, h, r⟩ := ZbL h
    obtain ⟨h1, h2⟩ := Zag h
    exact ⟨_, _, .cons r .nil, Zpr m ss h1, rfl, rfl, h2⟩
  · exact h.elim
theorem eThe (h : Mh) (ss : List SesD) (at' : Int) (K : DV → Prop) : (ask Tryz.prog [(26, sAtD [.agg (macL 0 h ss)] (B (mmay h ss)))] Tryz.f52 [.c (.p 0 (macL 0 h ss) 0), I at'] K) = ([DV.agg (macL (0) h ss)] = [DV.agg (macL (0) h ss)] ∧ bif mmay h ss then bif decide (at' ≥ 0) then K (DV.c (D.v (Value.bool (decide (at' < @Nat.cast Int _ (List.length (List.map (sesL (0)) ss))))))) else K (DV.c (D.v (Value.bool false))) else K (DV.c (D.v (Value.bool false)))) := by kernel_rfl
def Zcj (h : Mh) (ss : List SesD) (i : Int) : Bool := mmay h ss && (decide (i ≥ 0) && decide (i < ss.length))
theorem ZtT : Goes Tryz.prog 26 := Zaq Tryz.func26 (by kernel_rfl) rfl
theorem cThe (h : Mh) (ss : List SesD) (i : Int) (hok : okM h ss = true) : CT Tryz.prog 52 [.c (.p 0 (macL 0 h ss) 0), I i] (B (Zcj h ss i)) := by
  refine ct_s (.cons (oAtD ZtT (Zpr h ss hok) rfl rfl) .nil) mixed Tryz.func52 rfl rfl rfl ?_
  rw [eThe]
  refine ⟨rfl, ?_⟩
  unfold Zcj
  rw [List.length_map]
  simp only [bifK]
end

section
open Go Go.Proofs
theorem Zdg {h : Mh} {ss : List SesD} {i : Int} (hm : Zcj h ss i = true) : mmay h ss = true ∧ 0 ≤ i ∧ i < ss.length := by
  unfold Zcj at hm; simpa [Bool.and_eq_true] using hm
theorem ZeO {h : Mh} {ss : List SesD} (hm : mmay h ss = true) : ss.length ≤ 4 ∧ ∀ s ∈ ss, Zat h.w0 h.w1 h.w2 h.w3 s = true := by
  unfold mmay at hm
  simp only [Bool.and_eq_true, Bool.not_eq_true', decide_eq_false_iff_not, List.all_eq_true] at hm
  exact ⟨by omega, hm.2.2.2.2.2.2.1⟩
theorem ZoQ {h : Mh} {ss : List SesD} {i : Int} (hok : okM h ss = true) (hm : Zcj h ss i = true) : ∃ s, ss[i.toNat]? = some s ∧ ZaO s = true ∧ Zat h.w0 h.w1 h.w2 h.w3 s = true := by
  obtain ⟨g0, g1, g2⟩ := Zdg hm
  have hl : i.toNat < ss.length := by omega
  have hmem : ss[i.toNat] ∈ ss := List.getElem_mem hl
  exact ⟨ss[i.toNat], List.getElem?_eq_getElem hl, List.all_eq_true.1 (Zby hok).2.2 _ hmem, (ZeO g0).2 _ hmem⟩
end

section
open Go Go.Proofs
def kX (R : List (List D)) : Bool := decide (List.length R ≤ List.length (R ++ [])) && List.all (R ++ []) fun r => List.all r D.keeps
def tC (R : List (List D)) : List (List D) := List.take (List.length R) (R ++ [])
def tD (R : List (List D)) : List (List D) := List.take (List.length R + 0 - List.length R) (List.drop (List.length R) (R ++ []))
def sTt (s : SesD) : List D := [vN s.id, vN s.lb, vN s.cl, .s 1 4 (tC s.pg) (tD s.pg), vN s.st, vN s.pc, vN s.r0, vN s.r1, vN s.r2, vN s.r3, .s 1 3 (tC s.rd) (tD s.rd), .s 1 3 (tC s.wt) (tD s.wt), vN s.at', vN s.sp, vN s.tr, vN s.rs, vN s.to]
theorem ZvH (s : SesD) (K : DV → Prop) : (ask Tryz.prog [(90, Zdn), (149, Zev), (137, Zdy)] Tryz.f96 [.agg (sesL 0 s)] K) = (bif allV s.pg && decide (List.length s.pg ≤ 4398046510977) then bif allV s.rd && decide (List.length s.rd ≤ 5864062014635) then bif allV s.wt && decide (List.length s.wt ≤ 5864062014635) then bif kX s.pg then bif kX s.rd then bif kX s.wt then K (DV.agg (sTt s)) else False else False else False else False else False else False) := by kernel_rfl
def smR (n : Nat) (R : List (List D)) : Bool := allV R && decide (R.length ≤ n)
def smS (s : SesD) : Bool := smR 4398046510977 s.pg && (smR 5864062014635 s.rd && smR 5864062014635 s.wt)
def smM (h : Mh) (ss : List SesD) : Bool := okC4 h.w0 h.w1 h.w2 h.w3 && (smR 4398046510977 h.tr && ss.all smS)
theorem Zac {n : Nat} {R : List (List D)} (h : smR n R = true) : allV R = true ∧ R.length ≤ n ∧ (R.all fun r => r.all D.keeps) = true := by
  unfold smR at h
  simp only [Bool.and_eq_true, decide_eq_true_eq] at h
  exact ⟨h.1, h.2, Zao h.1⟩
theorem ZcF {n z m : Nat} {R : List (List D)} (h : okZ z R = true) (hl : R.length ≤ m) (hm : m ≤ n) : smR n R = true := by
  unfold smR
  rw [Zab h, decide_eq_true (by omega : R.length ≤ n)]; rfl
theorem ZaD {s : SesD} (h : smS s = true) : smR 4398046510977 s.pg = true ∧ smR 5864062014635 s.rd = true ∧ smR 5864062014635 s.wt = true := by
  unfold smS at h; simpa [Bool.and_eq_true] using h
theorem ZbO (R : List (List D)) : List.take R.length R = R := List.take_length
theorem Ze0 {s : SesD} (h : smS s = true) : ownL (sesL 1 s) = true := by
  obtain ⟨h1, h2, h3⟩ := ZaD h
  simp only [sesL, ownL, D.pureOwn, ZaE (Zac h1).1, ZaE (Zac h2).1, ZaE (Zac h3).1, Zdt]; rfl
theorem ZwY (s : SesD) (hs : smS s = true) : CT Tryz.prog 96 [.agg (sesL 0 s)] (.agg (sesL 1 s)) := by
  obtain ⟨h1, h2, h3⟩ := ZaD hs
  obtain ⟨a1, a2, a3⟩ := Zac h1
  obtain ⟨b1, b2, b3⟩ := Zac h2
  obtain ⟨c1, c2, c3⟩ := Zac h3
  refine ct_s (.cons Zeo (.cons Zls (.cons Zjw .nil))) mixed Tryz.func96 rfl rfl rfl ?_
  rw [ZvH]
  refine ⟨?_⟩
  simp only [kX, tC, tD, sTt]
  simp only [a1, a2, a3, b1, b2, b3, c1, c2, c3, List.append_nil, Nat.le_refl, decide_true, Bool.and_self, cond_true, ZbO, Nat.add_zero, Nat.sub_self, List.take_zero]
  rfl
def ZcK : Spec := fun ds Q => match ds with
  | [d] => sesA d fun s => cond (smS s) (Q (.agg (sesL 1 s))) False
  | _ => False
theorem ZoA : Zad Tryz.prog 96 ZcK := o_al Tryz.func96 (by kernel_rfl) rfl fun ds Q h => by
  unfold ZcK at h; split at h
  · obtain ⟨s, h, r⟩ := ZbN h
    obtain ⟨h1, h2⟩ := Zag h
    exact ⟨_, _, .cons r .nil, ZwY s h1, Ze0 h1, rfl, h2⟩
  · exact h.elim
theorem ZvQ (K : DV → Prop) : (ask Tryz.prog [] Tryz.f94 [.c (.s 0 17 ([].map (sesL 0)) [])] K) = (K (DV.c (D.s (1) (17) [] [])) ∧ K (DV.c (D.s (1) (17) [] []))) := by kernel_rfl
theorem ZvS (s0 : SesD) (K : DV → Prop) : (ask Tryz.prog [] Tryz.f94 [.c (.s 0 17 ([s0].map (sesL 0)) [])] K) = (True ∧ K (DV.c (D.s (1) (17) [(sesL (0) s0)] []))) := by kernel_rfl
theorem Zw6 (s0 s1 : SesD) (K : DV → Prop) : (ask Tryz.prog [] Tryz.f94 [.c (.s 0 17 ([s0, s1].map (sesL 0)) [])] K) = (True ∧ K (DV.c (D.s (1) (17) [(sesL (0) s0), (sesL (0) s1)] []))) := by kernel_rfl
theorem Zwo (s0 s1 s2 : SesD) (K : DV → Prop) : (ask Tryz.prog [] Tryz.f94 [.c (.s 0 17 ([s0, s1, s2].map (sesL 0)) [])] K) = (True ∧ K (DV.c (D.s (1) (17) [(sesL (0) s0), (sesL (0) s1), (sesL (0) s2)] []))) := by kernel_rfl
theorem ZwC (s0 s1 s2 s3 : SesD) (K : DV → Prop) : (ask Tryz.prog [] Tryz.f94 [.c (.s 0 17 ([s0, s1, s2, s3].map (sesL 0)) [])] K) = (True ∧ K (DV.c (D.s (1) (17) [(sesL (0) s0), (sesL (0) s1), (sesL (0) s2), (sesL (0) s3)] []))) := by kernel_rfl
theorem cClS (ss : List SesD) (hl : ss.length ≤ 4) : CT Tryz.prog 94 [.c (.s 0 17 (ss.map (sesL 0)) [])] (.c (.s 1 17 (ss.map (sesL 0)) [])) := by
  rcases ss with _ | ⟨s0, _ | ⟨s1, _ | ⟨s2, _ | ⟨s3, _ | ⟨s4, l⟩⟩⟩⟩⟩
  · refine ct_s .nil mixed Tryz.func94 rfl rfl rfl ?_
    rw [ZvQ]
    exact ⟨⟨rfl, rfl⟩⟩
  · refine ct_s .nil mixed Tryz.func94 rfl rfl rfl ?_
    rw [ZvS]
    exact ⟨⟨trivial, rfl⟩⟩
  · refine ct_s .nil mixed Tryz.func94 rfl rfl rfl ?_
    rw [Zw6]
    exact ⟨⟨trivial, rfl⟩⟩
  · refine ct_s .nil mixed Tryz.func94 rfl rfl rfl ?_
    rw [Zwo]
    exact ⟨⟨trivial, rfl⟩⟩
  · refine ct_s .nil mixed Tryz.func94 rfl rfl rfl ?_
    rw [ZwC]
    exact ⟨⟨trivial, rfl⟩⟩
  · simp at hl
def sClS : Spec := fun ds Q => match ds with
  | [.c d] => cond d.isOwn False (ZmD d fun ss => cond (Nat.ble ss.length 4) (Q (.c (.s 1 17 (ss.map (sesL 0)) []))) False)
  | _ => False
theorem oClS : ZlB Tryz.prog 94 sClS := fun ds Q h => by
  refine ⟨Zaq Tryz.func94 (by kernel_rfl) rfl, ?_⟩
  unfold sClS at h; split at h
  · rename_i d
    cases hd : d.isOwn with
    | true => rw [hd] at h; exact h.elim
    | false =>
      rw [hd] at h
      obtain ⟨ss, h, r⟩ := Zes h
      obtain ⟨h1, h2⟩ := Zag h
      exact ⟨_, (cClS ss (Nat.le_of_ble_eq_true h1)).args (.cons (.c r hd rfl) .nil), rfl, h2⟩
  · exact h.elim
theorem ZwZ (h : Mh) (K : DV → Prop) : (askH Tryz.prog (hkM [(93, ZbR), (95, Zbs), (96, ZcK)] [(94, sClS)] []) Tryz.f53 [.agg (macL 0 h [])] K) = (bif okC4 h.w0 h.w1 h.w2 h.w3 then bif allV h.tr && decide (List.length h.tr ≤ 4398046510977) then bif kX h.w0 then bif kX h.w1 then bif kX h.w2 then bif kX h.w3 then bif kX h.tr then K (DV.agg [D.s (1) (3) (tC h.w0) (tD h.w0), D.s (1) (3) (tC h.w1) (tD h.w1), D.s (1) (3) (tC h.w2) (tD h.w2), D.s (1) (3) (tC h.w3) (tD h.w3), vN h.c0, vN h.c1, vN h.c2, vN h.c3, vN h.ce, D.s (1) (17) [] [], D.s (1) (4) (tC h.tr) (tD h.tr)]) else False else False else False else False else False else False else False) := by kernel_rfl
theorem Zwp (h : Mh) (s0 : SesD) (K : DV → Prop) : (askH Tryz.prog (hkM [(93, ZbR), (95, Zbs), (96, ZcK)] [(94, sClS)] []) Tryz.f53 [.agg (macL 0 h [s0])] K) = (bif okC4 h.w0 h.w1 h.w2 h.w3 then bif allV h.tr && decide (List.length h.tr ≤ 4398046510977) then bif smS s0 then bif kX h.w0 then bif kX h.w1 then bif kX h.w2 then bif kX h.w3 then bif kX s0.pg then bif kX s0.rd then bif kX s0.wt then bif kX h.tr then K (DV.agg [D.s (1) (3) (tC h.w0) (tD h.w0), D.s (1) (3) (tC h.w1) (tD h.w1), D.s (1) (3) (tC h.w2) (tD h.w2), D.s (1) (3) (tC h.w3) (tD h.w3), vN h.c0, vN h.c1, vN h.c2, vN h.c3, vN h.ce, D.s (1) (17) [(sTt s0)] [], D.s (1) (4) (tC h.tr) (tD h.tr)]) else False else False else False else False else False else False else False else False else False else False else False) := by kernel_rfl
theorem Zvu (h : Mh) (s0 s1 : SesD) (K : DV → Prop) : (askH Tryz.prog (hkM [(93, ZbR), (95, Zbs), (96, ZcK)] [(94, sClS)] []) Tryz.f53 [.agg (macL 0 h [s0, s1])] K) = (bif okC4 h.w0 h.w1 h.w2 h.w3 then bif allV h.tr && decide (List.length h.tr ≤ 4398046510977) then bif smS s0 then bif smS s1 then bif kX h.w0 then bif kX h.w1 then bif kX h.w2 then bif kX h.w3 then bif kX s0.pg then bif kX s0.rd then bif kX s0.wt then bif kX s1.pg then bif kX s1.rd then bif kX s1.wt then bif kX h.tr then K (DV.agg [D.s (1) (3) (tC h.w0) (tD h.w0), D.s (1) (3) (tC h.w1) (tD h.w1), D.s (1) (3) (tC h.w2) (tD h.w2), D.s (1) (3) (tC h.w3) (tD h.w3), vN h.c0, vN h.c1, vN h.c2, vN h.c3, vN h.ce, D.s (1) (17) [(sTt s0), (sTt s1)] [], D.s (1) (4) (tC h.tr) (tD h.tr)]) else False else False else False else False else False else False else False else False else False else False else False else False else False else False else False) := by kernel_rfl
theorem ZvJ (h : Mh) (s0 s1 s2 : SesD) (K : DV → Prop) : (askH Tryz.prog (hkM [(93, ZbR), (95, Zbs), (96, ZcK)] [(94, sClS)] []) Tryz.f53 [.agg (macL 0 h [s0, s1, s2])] K) = (bif okC4 h.w0 h.w1 h.w2 h.w3 then bif allV h.tr && decide (List.length h.tr ≤ 4398046510977) then bif smS s0 then bif smS s1 then bif smS s2 then bif kX h.w0 then bif kX h.w1 then bif kX h.w2 then bif kX h.w3 then bif kX s0.pg then bif kX s0.rd then bif kX s0.wt then bif kX s1.pg then bif kX s1.rd then bif kX s1.wt then bif kX s2.pg then bif kX s2.rd then bif kX s2.wt then bif kX h.tr then K (DV.agg [D.s (1) (3) (tC h.w0) (tD h.w0), D.s (1) (3) (tC h.w1) (tD h.w1), D.s (1) (3) (tC h.w2) (tD h.w2), D.s (1) (3) (tC h.w3) (tD h.w3), vN h.c0, vN h.c1, vN h.c2, vN h.c3, vN h.ce, D.s (1) (17) [(sTt s0), (sTt s1), (sTt s2)] [], D.s (1) (4) (tC h.tr) (tD h.tr)]) else False else False else False else False else False else False else False else False else False else False else False else False else False else False else False else False else False else False else False) := by kernel_rfl
theorem Zwv (h : Mh) (s0 s1 s2 s3 : SesD) (K : DV → Prop) : (askH Tryz.prog (hkM [(93, ZbR), (95, Zbs), (96, ZcK)] [(94, sClS)] []) Tryz.f53 [.agg (macL 0 h [s0, s1, s2, s3])] K) = (bif okC4 h.w0 h.w1 h.w2 h.w3 then bif allV h.tr && decide (List.length h.tr ≤ 4398046510977) then bif smS s0 then bif smS s1 then bif smS s2 then bif smS s3 then bif kX h.w0 then bif kX h.w1 then bif kX h.w2 then bif kX h.w3 then bif kX s0.pg then bif kX s0.rd then bif kX s0.wt then bif kX s1.pg then bif kX s1.rd then bif kX s1.wt then bif kX s2.pg then bif kX s2.rd then bif kX s2.wt then bif kX s3.pg then bif kX s3.rd then bif kX s3.wt then bif kX h.tr then K (DV.agg [D.s (1) (3) (tC h.w0) (tD h.w0), D.s (1) (3) (tC h.w1) (tD h.w1), D.s (1) (3) (tC h.w2) (tD h.w2), D.s (1) (3) (tC h.w3) (tD h.w3), vN h.c0, vN h.c1, vN h.c2, vN h.c3, vN h.ce, D.s (1) (17) [(sTt s0), (sTt s1), (sTt s2), (sTt s3)] [], D.s (1) (4) (tC h.tr) (tD h.tr)]) else False else False else False else False else False else False else False else False else False else False else False else False else False else False else False else False else False else False else False else False else False else False else False) := by kernel_rfl
theorem Zdc {h : Mh} {ss : List SesD} (hm : smM h ss = true) : (smR 5864062014635 h.w0 = true ∧ smR 5864062014635 h.w1 = true ∧ smR 5864062014635 h.w2 = true ∧ smR 5864062014635 h.w3 = true) ∧ smR 4398046510977 h.tr = true ∧ ∀ s ∈ ss, smS s = true := by
  unfold smM okC4 okC at hm
  simp only [Bool.and_eq_true, List.all_eq_true] at hm
  unfold smR
  simp only [Bool.and_eq_true]
  refine ⟨⟨hm.1.1, hm.1.2.1, hm.1.2.2.1, hm.1.2.2.2⟩, ?_, hm.2.2⟩
  have := hm.2.1
  unfold smR at this
  rw [Bool.and_eq_true] at this
  exact this
theorem Zni {h : Mh} {ss : List SesD} (hm : smM h ss = true) : okC4 h.w0 h.w1 h.w2 h.w3 = true := by unfold smM at hm; rw [Bool.and_eq_true] at hm; exact hm.1
theorem Ziz {h : Mh} {ss : List SesD} (hm : smM h ss = true) : ownL (macL 1 h ss) = true := by
  obtain ⟨⟨a0, a1, a2, a3⟩, a4, a5⟩ := Zdc hm
  have h6 : Zdt (ss.map (sesL 1)) = true := by
    clear hm
    induction ss with
    | nil => rfl
    | cons s l ih => simp only [List.map_cons, Zdt, Ze0 (a5 s (by simp)), ih fun q hq => a5 q (by simp [hq])]; rfl
  simp only [macL, ownL, D.pureOwn, ZaE (Zac a0).1, ZaE (Zac a1).1, ZaE (Zac a2).1, ZaE (Zac a3).1, ZaE (Zac a4).1, h6, Zdt]; rfl
theorem cCop (h : Mh) (ss : List SesD) (hl : ss.length ≤ 4) (hm : smM h ss = true) : CT Tryz.prog 53 [.agg (macL 0 h ss)] (.agg (macL 1 h ss)) := by
  have h4 := Zni hm
  obtain ⟨⟨a0, a1, a2, a3⟩, a4, a5⟩ := Zdc hm
  obtain ⟨_, _, b0⟩ := Zac a0
  obtain ⟨_, _, b1⟩ := Zac a1
  obtain ⟨_, _, b2⟩ := Zac a2
  obtain ⟨_, _, b3⟩ := Zac a3
  obtain ⟨t1, t2, t3⟩ := Zac a4
  rcases ss with _ | ⟨s0, _ | ⟨s1, _ | ⟨s2, _ | ⟨s3, _ | ⟨s4, l⟩⟩⟩⟩⟩
  · refine ct_m (.cons ZjP (.cons Zb4 (.cons ZoA .nil))) (.cons oClS .nil) .nil mixed Tryz.func53 rfl rfl rfl ?_
    rw [ZwZ]
    refine ⟨?_⟩
    simp only [kX, tC, tD, sTt]
    simp only [h4, b0, b1, b2, b3, t1, t2, t3, List.append_nil, Nat.le_refl, decide_true, Bool.and_self, cond_true, ZbO, Nat.add_zero, Nat.sub_self, List.take_zero]
    rfl
  · have q0 := a5 s0 (by simp)
    obtain ⟨p0, r0, w0⟩ := ZaD q0
    obtain ⟨_, _, x0⟩ := Zac p0
    obtain ⟨_, _, y0⟩ := Zac r0
    obtain ⟨_, _, z0⟩ := Zac w0
    refine ct_m (.cons ZjP (.cons Zb4 (.cons ZoA .nil))) (.cons oClS .nil) .nil mixed Tryz.func53 rfl rfl rfl ?_
    rw [Zwp]
    refine ⟨?_⟩
    simp only [kX, tC, tD, sTt]
    simp only [h4, b0, b1, b2, b3, t1, t2, t3, q0, x0, y0, z0, List.append_nil, Nat.le_refl, decide_true, Bool.and_self, cond_true, ZbO, Nat.add_zero, Nat.sub_self, List.take_zero]
    rfl
  · have q0 := a5 s0 (by simp)
    obtain ⟨p0, r0, w0⟩ := ZaD q0
    obtain ⟨_, _, x0⟩ := Zac p0
    obtain ⟨_, _, y0⟩ := Zac r0
    obtain ⟨_, _, z0⟩ := Zac w0
    have q1 := a5 s1 (by simp)
    obtain ⟨p1, r1, w1⟩ := ZaD q1
    obtain ⟨_, _, x1⟩ := Zac p1
    obtain ⟨_, _, y1⟩ := Zac r1
    obtain ⟨_, _, z1⟩ := Zac w1
    refine ct_m (.cons ZjP (.cons Zb4 (.cons ZoA .nil))) (.cons oClS .nil) .nil mixed Tryz.func53 rfl rfl rfl ?_
    rw [Zvu]
    refine ⟨?_⟩
    simp only [kX, tC, tD, sTt]
    simp only [h4, b0, b1, b2, b3, t1, t2, t3, q0, x0, y0, z0, q1, x1, y1, z1, List.append_nil, Nat.le_refl, decide_true, Bool.and_self, cond_true, ZbO, Nat.add_zero, Nat.sub_self, List.take_zero]
    rfl
  · have q0 := a5 s0 (by simp)
    obtain ⟨p0, r0, w0⟩ := ZaD q0
    obtain ⟨_, _, x0⟩ := Zac p0
    obtain ⟨_, _, y0⟩ := Zac r0
    obtain ⟨_, _, z0⟩ := Zac w0
    have q1 := a5 s1 (by simp)
    obtain ⟨p1, r1, w1⟩ := ZaD q1
    obtain ⟨_, _, x1⟩ := Zac p1
    obtain ⟨_, _, y1⟩ := Zac r1
    obtain ⟨_, _, z1⟩ := Zac w1
    have q2 := a5 s2 (by simp)
    obtain ⟨p2, r2, w2⟩ := ZaD q2
    obtain ⟨_, _, x2⟩ := Zac p2
    obtain ⟨_, _, y2⟩ := Zac r2
    obtain ⟨_, _, z2⟩ := Zac w2
    refine ct_m (.cons ZjP (.cons Zb4 (.cons ZoA .nil))) (.cons oClS .nil) .nil mixed Tryz.func53 rfl rfl rfl ?_
    rw [ZvJ]
    refine ⟨?_⟩
    simp only [kX, tC, tD, sTt]
    simp only [h4, b0, b1, b2, b3, t1, t2, t3, q0, x0, y0, z0, q1, x1, y1, z1, q2, x2, y2, z2, List.append_nil, Nat.le_refl, decide_true, Bool.and_self, cond_true, ZbO, Nat.add_zero, Nat.sub_self, List.take_zero]
    rfl
  · have q0 := a5 s0 (by simp)
    obtain ⟨p0, r0, w0⟩ := ZaD q0
    obtain ⟨_, _, x0⟩ := Zac p0
    obtain ⟨_, _, y0⟩ := Zac r0
    obtain ⟨_, _, z0⟩ := Zac w0
    have q1 := a5 s1 (by simp)
    obtain ⟨p1, r1, w1⟩ := ZaD q1
    obtain ⟨_, _, x1⟩ := Zac p1
    obtain ⟨_, _, y1⟩ := Zac r1
    obtain ⟨_, _, z1⟩ := Zac w1
    have q2 := a5 s2 (by simp)
    obtain ⟨p2, r2, w2⟩ := ZaD q2
    obtain ⟨_, _, x2⟩ := Zac p2
    obtain ⟨_, _, y2⟩ := Zac r2
    obtain ⟨_, _, z2⟩ := Zac w2
    have q3 := a5 s3 (by simp)
    obtain ⟨p3, r3, w3⟩ := ZaD q3
    obtain ⟨_, _, x3⟩ := Zac p3
    obtain ⟨_, _, y3⟩ := Zac r3
    obtain ⟨_, _, z3⟩ := Zac w3
    refine ct_m (.cons ZjP (.cons Zb4 (.cons ZoA .nil))) (.cons oClS .nil) .nil mixed Tryz.func53 rfl rfl rfl ?_
    rw [Zwv]
    refine ⟨?_⟩
    simp only [kX, tC, tD, sTt]
    simp only [h4, b0, b1, b2, b3, t1, t2, t3, q0, x0, y0, z0, q1, x1, y1, z1, q2, x2, y2, z2, q3, x3, y3, z3, List.append_nil, Nat.le_refl, decide_true, Bool.and_self, cond_true, ZbO, Nat.add_zero, Nat.sub_self, List.take_zero]
    rfl
  · simp at hl
def sCop : Spec := fun ds Q => match ds with
  | [d] => macA d fun h ss => cond (Nat.ble ss.length 4 && smM h ss) (Q (.agg (macL 1 h ss))) False
  | _ => False
def ZuM : Inl := inlM Tryz.prog [] [] [] Tryz.f54
theorem ZqJ : Zbt Tryz.prog 54 ZuM := Zbl .nil .nil .nil mixed Tryz.func54 rfl (Zaq Tryz.func54 (by kernel_rfl) rfl)
end

section
open Go Go.Proofs
instance : Inhabited SesD := ⟨⟨0, 0, 0, [], 0, 0, 0, 0, 0, 0, [], [], 0, 0, 0, 0, 0⟩⟩
theorem Zql {l : List (List Int)} (h : pmay l = true) : l.length ≤ 16 := by unfold pmay at h; simp only [Bool.and_eq_true, decide_eq_true_eq] at h; exact h.2
theorem ZqT {l : List (List Int)} (h : rmay l = true) : l.length ≤ 16 := by unfold rmay at h; simp only [Bool.and_eq_true, decide_eq_true_eq] at h; exact h.1
theorem ZoJ {l : List (List Int)} (h : ZgC l = true) : l.length ≤ 16 := by unfold ZgC at h; simp only [Bool.and_eq_true, decide_eq_true_eq] at h; exact h.1
theorem ZdY {l : List (List Int)} (h : ZaM l = true) : l.length ≤ 4 := by
  unfold ZaM at h
  simp only [Bool.not_eq_true', Bool.or_eq_false_iff, decide_eq_false_iff_not] at h
  omega
theorem Zp3 {R0 R1 R2 R3 : List (List D)} {s : SesD} (hs : ZaO s = true) (h : Zat R0 R1 R2 R3 s = true) : smS s = true := by
  unfold Zat ZnR smay at h
  simp only [Bool.and_eq_true] at h
  unfold ZaO at hs
  simp only [Bool.and_eq_true] at hs
  have a1 := Zql h.1.2.2.2.2
  have a2 := ZqT h.2.1.1
  have a3 := ZoJ h.2.1.2.1
  rw [Zan] at a1 a2 a3
  unfold smS
  rw [ZcF hs.1 a1 (by omega), ZcF hs.2.1 a2 (by omega), ZcF hs.2.2 a3 (by omega)]; rfl
theorem ZiW {h : Mh} {ss : List SesD} (ho : okM h ss = true) (hm : mmay h ss = true) : smM h ss = true := by
  obtain ⟨h1, h2, h3⟩ := Zby ho
  obtain ⟨_, g5⟩ := ZeO hm
  unfold mmay amay at hm
  simp only [Bool.and_eq_true, Bool.not_eq_true', decide_eq_false_iff_not] at hm
  obtain ⟨⟨a0, a1, a2, a3⟩, _, _, _, htr, _⟩ := hm
  unfold okA at h1
  simp only [Bool.and_eq_true] at h1
  have l0 := ZdY a0
  have l1 := ZdY a1
  have l2 := ZdY a2
  have l3 := ZdY a3
  rw [Zan] at l0 l1 l2 l3
  have e0 : okC h.w0 = true := ZcF (n := 5864062014635) h1.1 l0 (by omega)
  have e1 : okC h.w1 = true := ZcF (n := 5864062014635) h1.2.1 l1 (by omega)
  have e2 : okC h.w2 = true := ZcF (n := 5864062014635) h1.2.2.1 l2 (by omega)
  have e3 : okC h.w3 = true := ZcF (n := 5864062014635) h1.2.2.2 l3 (by omega)
  unfold smM okC4
  rw [e0, e1, e2, e3, ZcF (n := 4398046510977) (m := 512) h2 (by omega) (by omega)]
  simp only [Bool.and_self, Bool.true_and, List.all_eq_true]
  intro s hs
  exact Zp3 (List.all_eq_true.1 h3 s hs) (g5 s hs)
def evD (s : SesD) (k v : Int) : List D := [vN s.id, vN s.lb, vN k, vN v]
def ZiZ (h : Mh) (s : SesD) (k v : Int) : Mh := { h with tr := bif decide ((h.tr.length : Int) < 512) then h.tr ++ [evD s k v] else h.tr }
def ZdR (h : Mh) (ss : List SesD) (i k : Int) : Bool := Zcj h ss i && (!decide (k < 0) && !decide (k > 6))
abbrev macE (e : Int) : DV := .tup [.agg (macL 1 h0 []), I e]
abbrev macR (h : Mh) (ss : List SesD) (e : Int) : DV := .tup [.agg (macL 1 h ss), I e]
theorem ZqW {h : Mh} {ss : List SesD} (hm : smM h ss = true) : ((h.w0.all fun r => r.all D.keeps) = true ∧ (h.w1.all fun r => r.all D.keeps) = true ∧ (h.w2.all fun r => r.all D.keeps) = true ∧ (h.w3.all fun r => r.all D.keeps) = true) ∧ (h.tr.all fun r => r.all D.keeps) = true ∧ ∀ s ∈ ss, (s.pg.all fun r => r.all D.keeps) = true ∧ (s.rd.all fun r => r.all D.keeps) = true ∧ (s.wt.all fun r => r.all D.keeps) = true := by
  obtain ⟨⟨a0, a1, a2, a3⟩, a4, a5⟩ := Zdc hm
  exact ⟨⟨(Zac a0).2.2, (Zac a1).2.2, (Zac a2).2.2, (Zac a3).2.2⟩, (Zac a4).2.2, fun s hs => by
    obtain ⟨p, r, w⟩ := ZaD (a5 s hs)
    exact ⟨(Zac p).2.2, (Zac r).2.2, (Zac w).2.2⟩⟩
structure Foc (h : Mh) (ss : List SesD) (i : Int) (s : SesD) : Prop where
  at' : ss[i.toNat]? = some s
  ok : ZaO s = true
  may : Zat h.w0 h.w1 h.w2 h.w3 s = true
  lt : i.toNat < ss.length
  i0 : 0 ≤ i
  i1 : i < ss.length
  sm : smM h ss = true
  len : ss.length ≤ 4
  mm : mmay h ss = true
  w0 : allK h.w0 = true
  w1 : allK h.w1 = true
  w2 : allK h.w2 = true
  w3 : allK h.w3 = true
  tr : allK h.tr = true
  tl : h.tr.length ≤ 512
theorem foc {h : Mh} {ss : List SesD} {i : Int} (hok : okM h ss = true) (hm : Zcj h ss i = true) : ∃ s, Foc h ss i s := by
  obtain ⟨s, h1, h2, h3⟩ := ZoQ hok hm
  obtain ⟨g0, g1, g2⟩ := Zdg hm
  have hsm := ZiW hok g0
  obtain ⟨⟨b0, b1, b2, b3⟩, t3, _⟩ := ZqW hsm
  refine ⟨s, h1, h2, h3, by omega, g1, g2, hsm, (ZeO g0).1, g0, b0, b1, b2, b3, t3, ?_⟩
  unfold mmay at g0
  simp only [Bool.and_eq_true, Bool.not_eq_true', decide_eq_false_iff_not] at g0
  omega
theorem Foc.getD {h : Mh} {ss : List SesD} {i : Int} {s : SesD} (f : Foc h ss i s) : ss.getD i.toNat default = s := by
  rw [List.getD_eq_getElem?_getD, f.at']; rfl
theorem Foc.foAt {h : Mh} {ss : List SesD} {i : Int} {s : SesD} (f : Foc h ss i s) : Vm.foAt (addN 0 i.toNat) i.toNat (List.length (List.map (sesL 1) ss)) := Zqz.2 ⟨rfl, by rw [List.length_map]; exact f.lt⟩
theorem Foc.ix {h : Mh} {ss : List SesD} {i : Int} {s : SesD} (f : Foc h ss i s) : (decide (0 ≤ i) && decide (i < @Nat.cast Int _ (List.length (List.map (sesL 1) ss)))) = true := by
  rw [List.length_map, decide_eq_true f.i0, decide_eq_true f.i1]; rfl
theorem Foc.row {h : Mh} {ss : List SesD} {i : Int} {s : SesD} (f : Foc h ss i s) : Ze2 (List.map (sesL 1) ss) (Int.toNat i) 1 s := Zkg f.at'
theorem Foc.ow0 {h : Mh} {ss : List SesD} {i : Int} {s : SesD} (f : Foc h ss i s) : whole h.w0.length h.w0 := ZaN f.w0
theorem Foc.ow1 {h : Mh} {ss : List SesD} {i : Int} {s : SesD} (f : Foc h ss i s) : whole h.w1.length h.w1 := ZaN f.w1
theorem Foc.ow2 {h : Mh} {ss : List SesD} {i : Int} {s : SesD} (f : Foc h ss i s) : whole h.w2.length h.w2 := ZaN f.w2
theorem Foc.ow3 {h : Mh} {ss : List SesD} {i : Int} {s : SesD} (f : Foc h ss i s) : whole h.w3.length h.w3 := ZaN f.w3
theorem Foc.otr {h : Mh} {ss : List SesD} {i : Int} {s : SesD} (f : Foc h ss i s) : whole h.tr.length h.tr := ZaN f.tr
theorem Foc.oss {h : Mh} {ss : List SesD} {i : Int} {s : SesD} (f : Foc h ss i s) (j : Nat) (s' : SesD) : whole (List.length (List.map (sesL 1) ss)) (List.set (List.map (sesL 1) ss) j (sesL 1 s')) := ZpS (List.length_map _)
theorem Foc.set {h : Mh} {ss : List SesD} {i : Int} {s : SesD} (f : Foc h ss i s) : List.set ss i.toNat s = ss := Zjl _ _ _ f.at'
theorem ZkD {R : List (List D)} {r : List D} (h : allK R = true) (hr : r.all D.keeps = true) : whole (R.length + 1) (List.take R.length R ++ [r]) := by
  rw [List.take_length]
  refine ⟨by simp, ?_⟩
  unfold allK at *
  rw [List.all_append, h]; simp [hr]
theorem Zil (h : Mh) (ss : List SesD) (j : Nat) (s : SesD) (e : Int) : AL (.tup [.agg (ZfQ 1 h (List.set (List.map (sesL 1) ss) j (sesL 1 s))), I e]) (macR h (ss.set j s) e) := by
  rw [ZpM, ZqI]; exact AL.refl _
theorem Zd7 (e : Int) : AL (.tup [.agg mac0, I e]) (macE e) := ZuJ e
theorem gCop : Goes Tryz.prog 53 := Zaq Tryz.func53 (by kernel_rfl) rfl
theorem gThe : Goes Tryz.prog 52 := Zaq Tryz.func52 (by kernel_rfl) rfl
def iCpF (t : Bool) (h : Mh) (ss : List SesD) (i : Int) (s : SesD) : Inl := Zrv Tryz.prog [34] (sIf t (sAtD [.agg (macL 0 h ss)] (.agg (macL 1 h ss)))) (matF i.toNat s)
theorem Zmj {h : Mh} {ss : List SesD} (hm : smM h ss = true) : (DV.agg (macL 1 h ss)).pureOwn = true := Ziz hm
theorem ZtA {t : Bool} {h : Mh} {ss : List SesD} (i : Int) (s : SesD) (hl : t = true → smM h ss = true ∧ ss.length ≤ 4) : Zbt Tryz.prog 53 (iCpF t h ss i s) :=
  Ziw (ZoD _ _) (oIf fun ht => oAtD gCop (cCop h ss (hl ht).2 (hl ht).1) (Zmj (hl ht).1) rfl)
theorem eTel (h : Mh) (ss : List SesD) (s : SesD) (i k v : Int) (t : Bool) (K : DV → Prop) : (askW Tryz.prog (hkF [(52, sAtD [.c (.p 0 (macL 0 h ss) 0), I i] (B t))] [] [(53, iCpF t h ss i s), (54, ZuM)]) Tryz.f22 [.agg (macL 0 h ss), I i, I k, I v] K) = ([DV.c (D.p (0) (macL (0) h ss) (0)), I i] = [DV.c (D.p (0) (macL (0) h ss) (0)), I i] ∧ bif !t then K (DV.tup [DV.agg mac0, I (1200)]) else bif decide (k < 0) then K (DV.tup [DV.agg mac0, I (1200)]) else bif decide (k > 6) then K (DV.tup [DV.agg mac0, I (1200)]) else t = true ∧ [DV.agg (macL (0) h ss)] = [DV.agg (macL (0) h ss)] ∧ Ze2 (List.map (sesL (1)) ss) (Int.toNat i) (1) s ∧ bif decide (@Nat.cast Int _ (List.length h.tr) < 512) then bif decide (0 ≤ i) && decide (i < @Nat.cast Int _ (List.length (List.map (sesL (1)) ss))) then foAt (addN (0) (Int.toNat i)) (Int.toNat i) (List.length (List.map (sesL (1)) ss)) ∧ foAt (addN (0) (Int.toNat i)) (Int.toNat i) (List.length (List.map (sesL (1)) ss)) ∧ bif decide (List.length h.tr ≤ List.length h.tr) && (decide ((List.length h.tr + 1) * 32 ≤ 140737488355328) && decide (List.length h.tr + 1 ≤ 9223372036854775807)) then whole (List.length h.w0) h.w0 ∧ whole (List.length h.w1) h.w1 ∧ whole (List.length h.w2) h.w2 ∧ whole (List.length h.w3) h.w3 ∧ whole (List.length (List.map (sesL (1)) ss)) (List.set (List.map (sesL (1)) ss) (Int.toNat i) (sesL (1) s)) ∧ whole (List.length h.tr + 1) (List.take (List.length h.tr) h.tr ++ [[vN s.id, vN s.lb, vN k, vN v]]) ∧ K (DV.tup [DV.agg (ZfQ (1) { h with tr := (List.take (List.length h.tr) h.tr ++ [[vN s.id, vN s.lb, vN k, vN v]]) } (List.set (List.map (sesL (1)) ss) (Int.toNat i) (sesL (1) s))), I (0)]) else False else False else whole (List.length h.w0) h.w0 ∧ whole (List.length h.w1) h.w1 ∧ whole (List.length h.w2) h.w2 ∧ whole (List.length h.w3) h.w3 ∧ whole (List.length (List.map (sesL (1)) ss)) (List.set (List.map (sesL (1)) ss) (Int.toNat i) (sesL (1) s)) ∧ whole (List.length h.tr) h.tr ∧ K (DV.tup [DV.agg (ZfQ (1) h (List.set (List.map (sesL (1)) ss) (Int.toNat i) (sesL (1) s))), I (0)])) := by kernel_rfl
theorem ZjV {h : Mh} {ss : List SesD} (i : Int) (hok : okM h ss = true) : Zcj h ss i = true → smM h ss = true ∧ ss.length ≤ 4 := fun hm => by
  obtain ⟨g0, _, _⟩ := Zdg hm
  exact ⟨ZiW hok g0, (ZeO g0).1⟩
theorem cTel (h : Mh) (ss : List SesD) (i k v : Int) (hok : okM h ss = true) : CT Tryz.prog 22 [.agg (macL 0 h ss), I i, I k, I v] (bif ZdR h ss i k then macR (ZiZ h (ss.getD i.toNat default) k v) ss 0 else macE 1200) := by
  refine Zrt (.cons (oAtD gThe (cThe h ss i hok) rfl rfl) .nil) .nil (.cons (ZtA i (ss.getD i.toNat default) (ZjV i hok)) (.cons ZqJ .nil)) mixed Tryz.func22 rfl rfl rfl ?_
  rw [eTel]
  refine ⟨⟨rfl, ?_⟩⟩
  unfold ZdR
  cases hm : Zcj h ss i with
  | false => exact Zd7 1200
  | true =>
    obtain ⟨s, f⟩ := foc hok hm
    rw [f.getD]
    cases hk1 : decide (k < 0)
    · cases hk2 : decide (k > 6)
      · refine ⟨rfl, rfl, f.row, ?_⟩
        unfold ZiZ
        cases hl : decide ((h.tr.length : Int) < 512)
        · refine ⟨f.ow0, f.ow1, f.ow2, f.ow3, f.oss _ _, f.otr, ?_⟩
          have := Zil h ss i.toNat s 0
          rw [f.set] at this; exact this
        · have hl' : h.tr.length < 512 := by have := of_decide_eq_true hl; omega
          simp only [cond_true, cond_false, f.ix, Bool.not_false, Bool.and_self]
          refine ⟨f.foAt, f.foAt, ?_⟩
          rw [decide_eq_true (Nat.le_refl _), decide_eq_true (by omega), decide_eq_true (by omega)]
          refine ⟨f.ow0, f.ow1, f.ow2, f.ow3, f.oss _ _, ZkD f.tr rfl, ?_⟩
          have := Zil { h with tr := h.tr ++ [evD s k v] } ss i.toNat s 0
          rw [f.set] at this
          rw [List.take_length]; exact this
      · exact Zd7 1200
    · exact Zd7 1200
def sTel : Spec := fun ds Q => match ds with
  | [d, .c (.v (.int .i64 i)), .c (.v (.int .i64 k)), .c (.v (.int .i64 v))] => macA d fun h ss => cond (okM h ss) (bif ZdR h ss i k then Q (macR (ZiZ h (ss.getD i.toNat default) k v) ss 0) else Q (macE 1200)) False
  | _ => False
theorem Zqv {R : List (List D)} {r : List D} (h : allV R = true) (hr : allV [r] = true) : allV (R ++ [r]) = true := by
  unfold allV at *
  rw [List.all_append, h, hr]; rfl
theorem ZrB {h : Mh} {ss : List SesD} (hm : smM h ss = true) (s : SesD) (k v : Int) : smM (ZiZ h s k v) ss = true := by
  obtain ⟨_, a4, _⟩ := Zdc hm
  unfold smM at hm ⊢
  simp only [Bool.and_eq_true] at hm ⊢
  refine ⟨hm.1, ?_, hm.2.2⟩
  show smR 4398046510977 (bif decide ((h.tr.length : Int) < 512) then h.tr ++ [evD s k v] else h.tr) = true
  cases hl : decide ((h.tr.length : Int) < 512)
  · exact a4
  · have hl' := of_decide_eq_true hl
    unfold smR
    rw [cond_true, Zqv (Zac a4).1 rfl, List.length_append, decide_eq_true (by simp; omega)]; rfl
theorem ZjD {h : Mh} {ss : List SesD} {i k : Int} (ho : okM h ss = true) (ht : ZdR h ss i k = true) (v : Int) : smM (ZiZ h (ss.getD i.toNat default) k v) ss = true := by
  unfold ZdR at ht
  rw [Bool.and_eq_true] at ht
  exact ZrB (ZiW ho (Zdg ht.1).1) _ k v
theorem ZeI {h : Mh} {ss : List SesD} (hm : smM h ss = true) (e : Int) : (macR h ss e).pureOwn = true := by
  have := Ziz hm
  simp only [macR, DV.pureOwn, DV.pureOwn.go, this]
  rfl
theorem oTel : Zad Tryz.prog 22 sTel := o_al Tryz.func22 (by kernel_rfl) rfl fun ds Q h => by
  unfold sTel at h; split at h
  · rename_i i k v
    obtain ⟨m, ss, h, r⟩ := ZbL h
    obtain ⟨h1, h2⟩ := Zag h
    have hc := cTel m ss i k v h1
    cases ht : ZdR m ss i k with
    | false =>
      rw [ht] at hc h2
      exact ⟨_, _, .cons r (.cons (.refl _) (.cons (.refl _) (.cons (.refl _) .nil))), hc, rfl, rfl, h2⟩
    | true =>
      rw [ht] at hc h2
      exact ⟨_, _, .cons r (.cons (.refl _) (.cons (.refl _) (.cons (.refl _) .nil))), hc, ZeI (ZjD h1 ht v) 0, rfl, h2⟩
  · exact h.elim
end

section
open Go Go.Proofs
def wdsB (R0 R1 R2 R3 : List (List D)) (s : SesD) : Bool := !(toZ s.pg).any (noIn R0 R1 R2 R3) && (!(toZ s.wt).any (noWr R0 R1 R2 R3) && !(toZ s.rd).any (noRd R0 R1 R2 R3))
theorem ZqL (a b c d : List (List Int)) (l : List (List Int)) : l.all (thv a b c d) = !l.any (noRd (mZ a) (mZ b) (mZ c) (mZ d)) := by
  rw [List.all_eq_not_any_not]
  congr 2
  funext r
  unfold thv noRd thW
  rw [Zai, Zai, Zai, Zai]
theorem cWds (R0 R1 R2 R3 : List (List D)) (s : SesD) (hA : okA R0 R1 R2 R3 = true) (hs : ZaO s = true) : CT Tryz.prog 120 [.agg (wsL R0 R1 R2 R3), .agg (sesL 0 s)] (B (wdsB R0 R1 R2 R3 s)) := by
  obtain ⟨q0, q1, q2, q3⟩ := Zb1 hA
  obtain ⟨a1, a2, _⟩ := Zah q0
  obtain ⟨b1, b2, _⟩ := Zah q1
  obtain ⟨c1, c2, _⟩ := Zah q2
  obtain ⟨d1, d2, _⟩ := Zah q3
  obtain ⟨e, ⟨hp, hpl⟩, ⟨hr, hrl⟩, ⟨hw, hwl⟩⟩ := Zob hs
  have hz : okZ 3 s.rd = true := by unfold ZaO at hs; simp only [Bool.and_eq_true] at hs; exact hs.2.1
  rw [a1, b1, c1, d1] at hA ⊢
  have hz2 : okZ 3 (mZ (toZ s.rd)) = true := by rw [← (Zah hz).1]; exact hz
  rw [e]
  generalize toZ R0 = a at *
  generalize toZ R1 = b at *
  generalize toZ R2 = c at *
  generalize toZ R3 = d at *
  generalize toZ s.pg = p at *
  generalize toZ s.rd = r at *
  generalize toZ s.wt = w at *
  refine Zjk (m := [(2, fWd1 a b c d s p r w), (8, fWd2 a b c d s p r w)]) (.cons ZjR (.cons oRT .nil)) mixed (Ztr rfl (by kernel_rfl) (by kernel_rfl) rfl (kWd1 hp hpl) (kWd2 hw hwl)) Tryz.func120 rfl rfl rfl ?_
  rw [eWds]
  unfold wdsB SesD.on
  simp only [ZfO]
  refine ⟨⟨trivial, fun i hi => ?_, fun hn => ⟨trivial, fun i hi => ?_, fun hn2 => ?_⟩⟩⟩
  · rw [hi.any]; rfl
  · rw [hn.any, hi.any]; rfl
  · rw [hn.any, hn2.any, hA, hz2, ZqL]; rfl
def sWds : Spec := fun ds Q => match ds with
  | [.agg cs, e] => cond (Zkl cs && Nat.beq cs.length 4) (Zib cs fun R0 R1 R2 R3 => sesA e fun s => cond (okA R0 R1 R2 R3 && ZaO s) (Q (B (wdsB R0 R1 R2 R3 s))) False) False
  | _ => False
theorem oWds : Zad Tryz.prog 120 sWds := o_al Tryz.func120 (by kernel_rfl) rfl fun ds Q h => by
  unfold sWds at h; split at h
  · obtain ⟨h0, h⟩ := Zag h
    rw [Bool.and_eq_true] at h0
    have hl := Zaa h0.2
    obtain ⟨R0, R1, R2, R3, h, r1⟩ := Zdi h
    obtain ⟨s, h, r2⟩ := ZbN h
    obtain ⟨h1, h2⟩ := Zag h
    rw [Bool.and_eq_true] at h1
    rw [List.take_of_length_le (Nat.le_of_eq hl)] at r1
    exact ⟨_, _, .cons (.agg r1 h0.1 rfl) (.cons r2 .nil), cWds R0 R1 R2 R3 s h1.1 h1.2, rfl, rfl, h2⟩
  · exact h.elim
theorem eUp2 (x l m : Int) (K : DV → Prop) : (ask Tryz.prog [] Tryz.f56 [I x, I l, I m] K) = (bif decide (x ≥ l) then K (DV.c (D.v (Value.bool (decide (x ≤ m))))) else K (DV.c (D.v (Value.bool false)))) := by kernel_rfl
theorem oUp2 : Zad Tryz.prog 56 sUp := o_of Tryz.func56 (by kernel_rfl) rfl fun ds Q h => by
  unfold sUp at h; split at h
  · refine ⟨_, Zak .nil mixed Tryz.func56 rfl rfl rfl ?_, rfl, rfl, h⟩
    rw [eUp2]; rename_i x l m; unfold upto; cases decide (x ≥ l) <;> rfl
  · exact h.elim
theorem ZwP (h : Mh) (ss : List SesD) (s : SesD) (K : DV → Prop) : (ask Tryz.prog [(92, Zjg), (120, sWds), (56, sUp), (121, ZrG), (122, sRM), (123, sWMy), (69, sB clk), (91, sB val8)] Tryz.f70 [.agg (macL 0 h ss), .agg (sesL 0 s)] K) = (bif okZ (4) s.pg then bif !smay s.id s.lb s.cl (toZ s.pg) then K (DV.c (D.v (Value.bool false))) else bif okA h.w0 h.w1 h.w2 h.w3 && ZaO s then bif !wdsB h.w0 h.w1 h.w2 h.w3 s then K (DV.c (D.v (Value.bool false))) else bif !upto s.st (0) (6) then K (DV.c (D.v (Value.bool false))) else bif !upto s.pc (0) (@Nat.cast Int _ (List.length s.pg)) then K (DV.c (D.v (Value.bool false))) else bif !v4 s.r0 s.r1 s.r2 s.r3 then K (DV.c (D.v (Value.bool false))) else bif okZ (3) s.rd then bif !rmay (toZ s.rd) then K (DV.c (D.v (Value.bool false))) else bif okZ (3) s.wt then bif !ZgC (toZ s.wt) then K (DV.c (D.v (Value.bool false))) else bif upto s.at' (0) (@Nat.cast Int _ (List.length s.wt)) then bif clk s.sp then bif clk s.tr then bif upto s.rs (0) (5) then K (DV.c (D.v (Value.bool (val8 s.to)))) else K (DV.c (D.v (Value.bool false))) else K (DV.c (D.v (Value.bool false))) else K (DV.c (D.v (Value.bool false))) else K (DV.c (D.v (Value.bool false))) else False else False else False else False) := by kernel_rfl
theorem ZwG (h : Mh) (ss : List SesD) (s : SesD) (hA : okA h.w0 h.w1 h.w2 h.w3 = true) (hs : ZaO s = true) : CT Tryz.prog 70 [.agg (macL 0 h ss), .agg (sesL 0 s)] (B (Zat h.w0 h.w1 h.w2 h.w3 s)) := by
  refine ct_s (.cons Zpa (.cons oWds (.cons oUp2 (.cons Zuw (.cons oQM (.cons oWPy (.cons Zhq (.cons ZgR .nil)))))))) mixed Tryz.func70 rfl rfl rfl ?_
  rw [ZwP]
  refine ⟨?_⟩
  have hz := hs
  unfold ZaO at hz
  simp only [Bool.and_eq_true] at hz
  simp only [hz.1, hz.2.1, hz.2.2, hA, hs, Bool.and_self, cond_true, bifN, bifK]
  unfold Zat ZnR farB Zph wdsB
  congr 3
  ac_rfl
def Zjx : Spec := fun ds Q => match ds with
  | [d, e] => macA d fun h _ => sesA e fun s => cond (okA h.w0 h.w1 h.w2 h.w3 && ZaO s) (Q (B (Zat h.w0 h.w1 h.w2 h.w3 s))) False
  | _ => False
theorem Zp4 : Zad Tryz.prog 70 Zjx := o_al Tryz.func70 (by kernel_rfl) rfl fun ds Q hq => by
  unfold Zjx at hq; split at hq
  · obtain ⟨h, ss, hq, r1⟩ := ZbL hq
    obtain ⟨s, hq, r⟩ := ZbN hq
    obtain ⟨h1, h2⟩ := Zag hq
    rw [Bool.and_eq_true] at h1
    exact ⟨_, _, .cons r1 (.cons r .nil), ZwG h ss s h1.1 h1.2, rfl, rfl, h2⟩
  · exact hq.elim
def stTr (h : Mh) (ss : List SesD) (v : Bool) (i : Int) : X := ⟨mkT 90 [(1, .c (.rp 2 0 11 0 0)), (2, ab v), (5, ai i)], [(2, .bx 0 11 ((macL 0 h ss).map C.d))], [], []⟩
def ZhU (h : Mh) (ss : List SesD) : Vw := fun y K => wB y 2 fun v => wI y 5 fun i => K (stTr h ss v i)
theorem ZjJ (h : Mh) (ss : List SesD) : VwOK (ZhU h ss) := fun y K h => by
  unfold ZhU at h
  obtain ⟨v, h⟩ := ZdM h
  obtain ⟨i, h⟩ := Za7 h
  exact ⟨_, h⟩
theorem rTr (h : Mh) (ss : List SesD) (v : Bool) (i : Int) (N : X → Prop) (E : Exit → X → Prop) : (ZaX Tryz.prog (hkA band bor [(71, sB lab)] []) Tryz.f27 2 [] [1, 2, 5] [2] (ZhU h ss) (fun _ => ZhU h ss) N E (stTr h ss v i)) = (bif decide (i < @Nat.cast Int _ (List.length h.tr)) then bif decide (0 ≤ i) && decide (i < @Nat.cast Int _ (List.length h.tr)) then bif isJ [IntKind.i64] (List.drop (1) (List.getD h.tr (Int.toNat i) [])) then bif !lab (hdJ (List.drop (1) (List.getD h.tr (Int.toNat i) []))) then stTr h ss false i = stTr h ss false i ∧ E Exit.ret (stTr h ss false i) else stTr h ss v (IntKind.wrap IntKind.i64 (i + 1)) = stTr h ss v (IntKind.wrap IntKind.i64 (i + 1)) ∧ N (stTr h ss v (IntKind.wrap IntKind.i64 (i + 1))) else False else False else stTr h ss v i = stTr h ss v i ∧ E (Exit.exit (4)) (stTr h ss v i)) := by kernel_rfl
def Mh.on (h : Mh) (t : List (List Int)) : Mh := { h with tr := mZ t }
def fTr (h : Mh) (ss : List SesD) (t : List (List Int)) : LSum := Zde [1, 2, 5] [2] (fun i => stTr (h.on t) ss false i) (fun i => stTr (h.on t) ss false i) t.length (fun i => noEv (t.getD i [])) .ret (.exit 4)
theorem kTr {h : Mh} {ss : List SesD} {t : List (List Int)} (hw : wid 4 t) (hn : t.length ≤ 9223372036854775807) (Q : Exit → X → Prop) (x : X) (hq : fTr h ss t Q x) : XWP Tryz.prog (.loop (Zal Tryz.f27 2)) Q x := by
  refine Zbq (sw := []) (V := ZhU (h.on t) ss) (VE := fun _ => ZhU (h.on t) ss) mixed (ZjJ (h.on t) ss) (fun _ => ZjJ (h.on t) ss) _ _ _ _ _ _ (fun i hl => ⟨hkA band bor [(71, sB lab)] [], ZaJ (.cons Zok .nil), Zae rfl, fun N E h1 h2 => ?_⟩) ⟨hkA band bor [(71, sB lab)] [], ZaJ (.cons Zok .nil), Zae rfl, fun N E h1 => ?_⟩ Q x hq
  · rw [rTr]
    have wi : IntKind.wrap .i64 ((i : Int) + 1) = ((i + 1 : Nat) : Int) := Zaj (n := 1) (by omega)
    have a1 : isJ [IntKind.i64] (List.drop 1 ((mZ t).getD i [])) = true := Zau (j := 1) (n := 1) hw hl (by omega)
    simp only [Mh.on, Zai, Int.ofNat_lt, hl, decide_true, cond_true, Int.natCast_nonneg, Bool.and_self, Int.toNat_natCast, a1, ZbS, true_and, wi] at h1 h2 ⊢
    unfold noEv at h1 h2
    generalize lab ((t.getD i []).getD 1 0) = u at h1 h2 ⊢
    cases u <;> simp only [cond_true, cond_false, Bool.not_true, Bool.not_false, forall_const, reduceCtorEq, false_implies] at h1 h2 ⊢ <;> first | exact h1 | exact h2 | exact h1 trivial | exact h2 trivial
  · rw [rTr]
    simp only [Mh.on, Zai, Int.ofNat_lt, Nat.lt_irrefl, decide_false, cond_false, true_and]
    exact h1
theorem Zvr (h : Mh) (t : List (List Int)) (K : DV → Prop) : (askL Tryz.prog [(68, Zce), (69, sB clk), (56, sUp), (70, Zjx)] [(14, fTr h [] t)] Tryz.f27 [.agg (macL 0 (h.on t) [])] K) = (bif okA h.w0 h.w1 h.w2 h.w3 then bif !amay (toZ h.w0) (toZ h.w1) (toZ h.w2) (toZ h.w3) then K (DV.c (D.v (Value.bool false))) else bif !clk h.ce then K (DV.c (D.v (Value.bool false))) else bif decide (@Nat.cast Int _ (List.length (mZ t)) > 512) then K (DV.c (D.v (Value.bool false))) else bif !upto h.c0 (0) h.ce then K (DV.c (D.v (Value.bool false))) else bif !upto h.c1 (0) h.ce then K (DV.c (D.v (Value.bool false))) else bif !upto h.c2 (0) h.ce then K (DV.c (D.v (Value.bool false))) else bif !upto h.c3 (0) h.ce then K (DV.c (D.v (Value.bool false))) else stTr { w0 := h.w0, w1 := h.w1, w2 := h.w2, w3 := h.w3, c0 := h.c0, c1 := h.c1, c2 := h.c2, c3 := h.c3, ce := h.ce, tr := mZ t } [] false (0) = stTr { w0 := h.w0, w1 := h.w1, w2 := h.w2, w3 := h.w3, c0 := h.c0, c1 := h.c1, c2 := h.c2, c3 := h.c3, ce := h.ce, tr := mZ t } [] false (0) ∧ (∀ (i : Nat), firstAt (fun i => noEv (List.getD t i [])) (List.length t) i → K (DV.c (D.v (Value.bool false)))) ∧ (noneTo (fun i => noEv (List.getD t i [])) (List.length t) → K (DV.c (D.v (Value.bool true)))) else False) := by kernel_rfl
theorem Zwk (h : Mh) (s0 : SesD) (t : List (List Int)) (K : DV → Prop) : (askL Tryz.prog [(68, Zce), (69, sB clk), (56, sUp), (70, Zjx)] [(14, fTr h [s0] t)] Tryz.f27 [.agg (macL 0 (h.on t) [s0])] K) = (bif okA h.w0 h.w1 h.w2 h.w3 then bif !amay (toZ h.w0) (toZ h.w1) (toZ h.w2) (toZ h.w3) then K (DV.c (D.v (Value.bool false))) else bif !clk h.ce then K (DV.c (D.v (Value.bool false))) else bif decide (@Nat.cast Int _ (List.length (mZ t)) > 512) then K (DV.c (D.v (Value.bool false))) else bif !upto h.c0 (0) h.ce then K (DV.c (D.v (Value.bool false))) else bif !upto h.c1 (0) h.ce then K (DV.c (D.v (Value.bool false))) else bif !upto h.c2 (0) h.ce then K (DV.c (D.v (Value.bool false))) else bif !upto h.c3 (0) h.ce then K (DV.c (D.v (Value.bool false))) else bif okA h.w0 h.w1 h.w2 h.w3 && ZaO s0 then bif !Zat h.w0 h.w1 h.w2 h.w3 s0 then K (DV.c (D.v (Value.bool false))) else stTr { w0 := h.w0, w1 := h.w1, w2 := h.w2, w3 := h.w3, c0 := h.c0, c1 := h.c1, c2 := h.c2, c3 := h.c3, ce := h.ce, tr := mZ t } [s0] false (0) = stTr { w0 := h.w0, w1 := h.w1, w2 := h.w2, w3 := h.w3, c0 := h.c0, c1 := h.c1, c2 := h.c2, c3 := h.c3, ce := h.ce, tr := mZ t } [s0] false (0) ∧ (∀ (i : Nat), firstAt (fun i => noEv (List.getD t i [])) (List.length t) i → K (DV.c (D.v (Value.bool false)))) ∧ (noneTo (fun i => noEv (List.getD t i [])) (List.length t) → K (DV.c (D.v (Value.bool true)))) else False else False) := by kernel_rfl
theorem Zv7 (h : Mh) (s0 s1 : SesD) (t : List (List Int)) (K : DV → Prop) : (askL Tryz.prog [(68, Zce), (69, sB clk), (56, sUp), (70, Zjx)] [(14, fTr h [s0, s1] t)] Tryz.f27 [.agg (macL 0 (h.on t) [s0, s1])] K) = (bif okA h.w0 h.w1 h.w2 h.w3 then bif !amay (toZ h.w0) (toZ h.w1) (toZ h.w2) (toZ h.w3) then K (DV.c (D.v (Value.bool false))) else bif !clk h.ce then K (DV.c (D.v (Value.bool false))) else bif decide (@Nat.cast Int _ (List.length (mZ t)) > 512) then K (DV.c (D.v (Value.bool false))) else bif !upto h.c0 (0) h.ce then K (DV.c (D.v (Value.bool false))) else bif !upto h.c1 (0) h.ce then K (DV.c (D.v (Value.bool false))) else bif !upto h.c2 (0) h.ce then K (DV.c (D.v (Value.bool false))) else bif !upto h.c3 (0) h.ce then K (DV.c (D.v (Value.bool false))) else bif okA h.w0 h.w1 h.w2 h.w3 && ZaO s0 then bif !Zat h.w0 h.w1 h.w2 h.w3 s0 then K (DV.c (D.v (Value.bool false))) else bif okA h.w0 h.w1 h.w2 h.w3 && ZaO s1 then bif !Zat h.w0 h.w1 h.w2 h.w3 s1 then K (DV.c (D.v (Value.bool false))) else bif decide (s1.id ≤ s0.id) then K (DV.c (D.v (Value.bool false))) else stTr { w0 := h.w0, w1 := h.w1, w2 := h.w2, w3 := h.w3, c0 := h.c0, c1 := h.c1, c2 := h.c2, c3 := h.c3, ce := h.ce, tr := mZ t } [s0, s1] false (0) = stTr { w0 := h.w0, w1 := h.w1, w2 := h.w2, w3 := h.w3, c0 := h.c0, c1 := h.c1, c2 := h.c2, c3 := h.c3, ce := h.ce, tr := mZ t } [s0, s1] false (0) ∧ (∀ (i : Nat), firstAt (fun i => noEv (List.getD t i [])) (List.length t) i → K (DV.c (D.v (Value.bool false)))) ∧ (noneTo (fun i => noEv (List.getD t i [])) (List.length t) → K (DV.c (D.v (Value.bool true)))) else False else False else False) := by kernel_rfl
theorem Zxj (h : Mh) (s0 s1 s2 : SesD) (t : List (List Int)) (K : DV → Prop) : (askL Tryz.prog [(68, Zce), (69, sB clk), (56, sUp), (70, Zjx)] [(14, fTr h [s0, s1, s2] t)] Tryz.f27 [.agg (macL 0 (h.on t) [s0, s1, s2])] K) = (bif okA h.w0 h.w1 h.w2 h.w3 then bif !amay (toZ h.w0) (toZ h.w1) (toZ h.w2) (toZ h.w3) then K (DV.c (D.v (Value.bool false))) else bif !clk h.ce then K (DV.c (D.v (Value.bool false))) else bif decide (@Nat.cast Int _ (List.length (mZ t)) > 512) then K (DV.c (D.v (Value.bool false))) else bif !upto h.c0 (0) h.ce then K (DV.c (D.v (Value.bool false))) else bif !upto h.c1 (0) h.ce then K (DV.c (D.v (Value.bool false))) else bif !upto h.c2 (0) h.ce then K (DV.c (D.v (Value.bool false))) else bif !upto h.c3 (0) h.ce then K (DV.c (D.v (Value.bool false))) else bif okA h.w0 h.w1 h.w2 h.w3 && ZaO s0 then bif !Zat h.w0 h.w1 h.w2 h.w3 s0 then K (DV.c (D.v (Value.bool false))) else bif okA h.w0 h.w1 h.w2 h.w3 && ZaO s1 then bif !Zat h.w0 h.w1 h.w2 h.w3 s1 then K (DV.c (D.v (Value.bool false))) else bif decide (s1.id ≤ s0.id) then K (DV.c (D.v (Value.bool false))) else bif okA h.w0 h.w1 h.w2 h.w3 && ZaO s2 then bif !Zat h.w0 h.w1 h.w2 h.w3 s2 then K (DV.c (D.v (Value.bool false))) else bif decide (s2.id ≤ s1.id) then K (DV.c (D.v (Value.bool false))) else stTr { w0 := h.w0, w1 := h.w1, w2 := h.w2, w3 := h.w3, c0 := h.c0, c1 := h.c1, c2 := h.c2, c3 := h.c3, ce := h.ce, tr := mZ t } [s0, s1, s2] false (0) = stTr { w0 := h.w0, w1 := h.w1, w2 := h.w2, w3 := h.w3, c0 := h.c0, c1 := h.c1, c2 := h.c2, c3 := h.c3, ce := h.ce, tr := mZ t } [s0, s1, s2] false (0) ∧ (∀ (i : Nat), firstAt (fun i => noEv (List.getD t i [])) (List.length t) i → K (DV.c (D.v (Value.bool false)))) ∧ (noneTo (fun i => noEv (List.getD t i [])) (List.length t) → K (DV.c (D.v (Value.bool true)))) else False else False else False else False) := by kernel_rfl
theorem Zwf (h : Mh) (s0 s1 s2 s3 : SesD) (t : List (List Int)) (K : DV → Prop) : (askL Tryz.prog [(68, Zce), (69, sB clk), (56, sUp), (70, Zjx)] [(14, fTr h [s0, s1, s2, s3] t)] Tryz.f27 [.agg (macL 0 (h.on t) [s0, s1, s2, s3])] K) = (bif okA h.w0 h.w1 h.w2 h.w3 then bif !amay (toZ h.w0) (toZ h.w1) (toZ h.w2) (toZ h.w3) then K (DV.c (D.v (Value.bool false))) else bif !clk h.ce then K (DV.c (D.v (Value.bool false))) else bif decide (@Nat.cast Int _ (List.length (mZ t)) > 512) then K (DV.c (D.v (Value.bool false))) else bif !upto h.c0 (0) h.ce then K (DV.c (D.v (Value.bool false))) else bif !upto h.c1 (0) h.ce then K (DV.c (D.v (Value.bool false))) else bif !upto h.c2 (0) h.ce then K (DV.c (D.v (Value.bool false))) else bif !upto h.c3 (0) h.ce then K (DV.c (D.v (Value.bool false))) else bif okA h.w0 h.w1 h.w2 h.w3 && ZaO s0 then bif !Zat h.w0 h.w1 h.w2 h.w3 s0 then K (DV.c (D.v (Value.bool false))) else bif okA h.w0 h.w1 h.w2 h.w3 && ZaO s1 then bif !Zat h.w0 h.w1 h.w2 h.w3 s1 then K (DV.c (D.v (Value.bool false))) else bif decide (s1.id ≤ s0.id) then K (DV.c (D.v (Value.bool false))) else bif okA h.w0 h.w1 h.w2 h.w3 && ZaO s2 then bif !Zat h.w0 h.w1 h.w2 h.w3 s2 then K (DV.c (D.v (Value.bool false))) else bif decide (s2.id ≤ s1.id) then K (DV.c (D.v (Value.bool false))) else bif okA h.w0 h.w1 h.w2 h.w3 && ZaO s3 then bif !Zat h.w0 h.w1 h.w2 h.w3 s3 then K (DV.c (D.v (Value.bool false))) else bif decide (s3.id ≤ s2.id) then K (DV.c (D.v (Value.bool false))) else stTr { w0 := h.w0, w1 := h.w1, w2 := h.w2, w3 := h.w3, c0 := h.c0, c1 := h.c1, c2 := h.c2, c3 := h.c3, ce := h.ce, tr := mZ t } [s0, s1, s2, s3] false (0) = stTr { w0 := h.w0, w1 := h.w1, w2 := h.w2, w3 := h.w3, c0 := h.c0, c1 := h.c1, c2 := h.c2, c3 := h.c3, ce := h.ce, tr := mZ t } [s0, s1, s2, s3] false (0) ∧ (∀ (i : Nat), firstAt (fun i => noEv (List.getD t i [])) (List.length t) i → K (DV.c (D.v (Value.bool false)))) ∧ (noneTo (fun i => noEv (List.getD t i [])) (List.length t) → K (DV.c (D.v (Value.bool true)))) else False else False else False else False else False) := by kernel_rfl
theorem ZvA (h : Mh) (ss : List SesD) (K : DV → Prop) : (askL Tryz.prog [(68, Zce), (69, sB clk), (56, sUp)] [(4, fun _ _ => False)] Tryz.f27 [.agg (macL 0 h ss)] K) = (bif okA h.w0 h.w1 h.w2 h.w3 then bif !amay (toZ h.w0) (toZ h.w1) (toZ h.w2) (toZ h.w3) then K (DV.c (D.v (Value.bool false))) else bif !clk h.ce then K (DV.c (D.v (Value.bool false))) else bif decide (@Nat.cast Int _ (List.length (List.map (sesL (0)) ss)) > 4) then K (DV.c (D.v (Value.bool false))) else bif decide (@Nat.cast Int _ (List.length h.tr) > 512) then K (DV.c (D.v (Value.bool false))) else False else False) := by kernel_rfl
end

section
open Go Go.Proofs
theorem ZsV (a b e : Int) : decide (mx a b > e) = (decide (a > e) || decide (b > e)) := by
  rw [Bool.eq_iff_iff]
  simp only [Bool.or_eq_true, decide_eq_true_eq]
  unfold mx
  split <;> omega
theorem ZpC (c0 c1 c2 c3 e : Int) : ((ck4 c0 c1 c2 c3 && clk e) && !decide (mx4 c0 c1 c2 c3 > e)) = (clk e && (upto c0 0 e && (upto c1 0 e && (upto c2 0 e && upto c3 0 e)))) := by
  unfold mx4
  rw [ZsV, ZsV, ZsV, Bool.eq_iff_iff]
  unfold ck4 clk upto
  simp only [Bool.and_eq_true, Bool.not_eq_true', Bool.or_eq_false_iff, decide_eq_true_eq, decide_eq_false_iff_not]
  omega
theorem Zje (a b : Int) : (!decide (a ≥ b)) = !decide (b ≤ a) := rfl
theorem bN {p : Bool} {R : Prop} {q : Bool} (h : p = true → R) (h2 : p = false → q = false) : bif !p then (DV.c (.v (.bool false)) = B q) else R := by
  cases p
  · rw [h2 rfl]; rfl
  · exact h rfl
theorem bP {p : Bool} {R : Prop} {q : Bool} (h : p = false → R) (h2 : p = true → q = false) : bif p then (DV.c (.v (.bool false)) = B q) else R := by
  cases p
  · exact h rfl
  · rw [h2 rfl]; rfl
theorem bO {p : Bool} {R : Prop} (hp : p = true) (h : R) : bif p then R else False := by rw [hp]; exact h
theorem bT {T : Prop} {t : List (List Int)} {q : Bool} (hT : T) (h1 : t.any noEv = true → q = false) (h2 : t.any noEv = false → q = true) : T ∧ (∀ i : Nat, firstAt (fun i => noEv (List.getD t i [])) (List.length t) i → (DV.c (.v (.bool false)) = B q)) ∧ (noneTo (fun i => noEv (List.getD t i [])) (List.length t) → (DV.c (.v (.bool true)) = B q)) :=
  ⟨hT, fun i hi => by rw [h1 hi.any], fun hn => by rw [h2 hn.any]⟩
theorem ZtV {P : Program} {l : List (FuncId × Spec)} {fn : Func} {k1 k2 k3 : Nat} {s3 : LSum} (hn : (Zbd (Zav fn)).length = 3) (e1 : ZbI (Zal fn 0) = k1) (e2 : ZbI (Zal fn 1) = k2) (e3 : ZbI (Zal fn 2) = k3) (n1 : Nat.beq k3 k1 = false) (n2 : Nat.beq k3 k2 = false) (h3 : ∀ Q x, s3 Q x → XWP P (.loop (Zal fn 2)) Q x) : Zaz P (hkl l [(k3, s3)]) (Zav fn) :=
  Zc9 3 hn fun i hi s hs Q x hq => by
    match i, hi with
    | 0, _ =>
      rw [e1] at hs
      have hs' : Zdu [(k3, s3)] k1 = some s := hs
      simp only [Zdu, n1] at hs'
      cases hs'
    | 1, _ =>
      rw [e2] at hs
      have hs' : Zdu [(k3, s3)] k2 = some s := hs
      simp only [Zdu, n2] at hs'
      cases hs'
    | 2, _ =>
      rw [e3] at hs
      have hs' : some s3 = some s := by simpa [Zdu, hkl, hkA, Zbm] using hs
      cases hs'
      exact h3 Q x hq
theorem Zg5 {h : Mh} {ss : List SesD} {t : List (List Int)} (hw : wid 4 t) (hl : t.length ≤ 9223372036854775807) : Zaz Tryz.prog (hkl [(68, Zce), (69, sB clk), (56, sUp), (70, Zjx)] [(14, fTr h ss t)]) (Zav Tryz.f27) :=
  ZtV rfl rfl rfl (by kernel_rfl) (by kernel_rfl) (by kernel_rfl) (fun Q x hq => kTr hw hl Q x hq)
theorem cRMt (h : Mh) (ss : List SesD) (t : List (List Int)) (hA : okA h.w0 h.w1 h.w2 h.w3 = true) (hw : wid 4 t) (hl : t.length ≤ 9223372036854775807) (hs : okSS ss = true) : CT Tryz.prog 27 [.agg (macL 0 (h.on t) ss)] (B (mmay (h.on t) ss)) := by
  have hq : ∀ s ∈ ss, ZaO s = true := List.all_eq_true.1 hs
  rcases ss with _ | ⟨s0, _ | ⟨s1, _ | ⟨s2, _ | ⟨s3, _ | ⟨s4, l⟩⟩⟩⟩⟩
  · 
    have key : mmay (h.on t) [] = (amay (toZ h.w0) (toZ h.w1) (toZ h.w2) (toZ h.w3) && (clk h.ce && (!decide (((mZ t).length : Int) > 512) && (upto h.c0 0 h.ce && (upto h.c1 0 h.ce && (upto h.c2 0 h.ce && (upto h.c3 0 h.ce && !t.any noEv))))))) := by
      show (amay (toZ h.w0) (toZ h.w1) (toZ h.w2) (toZ h.w3) && ((ck4 h.c0 h.c1 h.c2 h.c3 && clk h.ce) && (!decide (mx4 h.c0 h.c1 h.c2 h.c3 > h.ce) && (!decide ((([] : List SesD).length : Int) > 4) && (!decide (((mZ t).length : Int) > 512) && (ZdB [] && (([] : List SesD).all (Zat h.w0 h.w1 h.w2 h.w3) && !(toZ (mZ t)).any noEv))))))) = _
      rw [ZfO, ← Bool.and_assoc (ck4 h.c0 h.c1 h.c2 h.c3 && clk h.ce), ZpC]
      simp only [ZdB, List.all_cons, List.all_nil, Bool.and_true, Bool.true_and, Zje, (by simp : (!decide ((([] : List SesD).length : Int) > 4)) = true)]
      try ac_rfl
    refine Zjk (m := [(14, fTr h [] t)]) (.cons Zg0 (.cons Zhq (.cons oUp2 (.cons Zp4 .nil)))) mixed (Zg5 hw hl) Tryz.func27 rfl rfl rfl ?_
    rw [Zvr]
    refine ⟨?_⟩
    refine bO hA ?_
    refine bN (fun gA => ?_) (fun g => by rw [key, g]; rfl)
    refine bN (fun gC => ?_) (fun g => by rw [key, gA, g]; rfl)
    refine bP (fun gT => ?_) (fun g => by rw [key, gA, gC, g]; rfl)
    refine bN (fun gc0 => ?_) (fun g => by rw [key, gA, gC, gT, g]; simp)
    refine bN (fun gc1 => ?_) (fun g => by rw [key, gA, gC, gT, gc0, g]; simp)
    refine bN (fun gc2 => ?_) (fun g => by rw [key, gA, gC, gT, gc0, gc1, g]; simp)
    refine bN (fun gc3 => ?_) (fun g => by rw [key, gA, gC, gT, gc0, gc1, gc2, g]; simp)
    exact bT rfl (fun g => by rw [key, gA, gC, gT, gc0, gc1, gc2, gc3, g]; rfl) (fun g => by rw [key, gA, gC, gT, gc0, gc1, gc2, gc3, g]; rfl)
  · 
    have q0 : ZaO s0 = true := hq s0 (by simp)
    have key : mmay (h.on t) [s0] = (amay (toZ h.w0) (toZ h.w1) (toZ h.w2) (toZ h.w3) && (clk h.ce && (!decide (((mZ t).length : Int) > 512) && (upto h.c0 0 h.ce && (upto h.c1 0 h.ce && (upto h.c2 0 h.ce && (upto h.c3 0 h.ce && (Zat h.w0 h.w1 h.w2 h.w3 s0 && !t.any noEv)))))))) := by
      show (amay (toZ h.w0) (toZ h.w1) (toZ h.w2) (toZ h.w3) && ((ck4 h.c0 h.c1 h.c2 h.c3 && clk h.ce) && (!decide (mx4 h.c0 h.c1 h.c2 h.c3 > h.ce) && (!decide ((([s0] : List SesD).length : Int) > 4) && (!decide (((mZ t).length : Int) > 512) && (ZdB [s0] && (([s0] : List SesD).all (Zat h.w0 h.w1 h.w2 h.w3) && !(toZ (mZ t)).any noEv))))))) = _
      rw [ZfO, ← Bool.and_assoc (ck4 h.c0 h.c1 h.c2 h.c3 && clk h.ce), ZpC]
      simp only [ZdB, List.all_cons, List.all_nil, Bool.and_true, Bool.true_and, Zje, (by simp : (!decide ((([s0] : List SesD).length : Int) > 4)) = true)]
      try ac_rfl
    refine Zjk (m := [(14, fTr h [s0] t)]) (.cons Zg0 (.cons Zhq (.cons oUp2 (.cons Zp4 .nil)))) mixed (Zg5 hw hl) Tryz.func27 rfl rfl rfl ?_
    rw [Zwk]
    refine ⟨?_⟩
    refine bO hA ?_
    refine bN (fun gA => ?_) (fun g => by rw [key, g]; rfl)
    refine bN (fun gC => ?_) (fun g => by rw [key, gA, g]; rfl)
    refine bP (fun gT => ?_) (fun g => by rw [key, gA, gC, g]; rfl)
    refine bN (fun gc0 => ?_) (fun g => by rw [key, gA, gC, gT, g]; simp)
    refine bN (fun gc1 => ?_) (fun g => by rw [key, gA, gC, gT, gc0, g]; simp)
    refine bN (fun gc2 => ?_) (fun g => by rw [key, gA, gC, gT, gc0, gc1, g]; simp)
    refine bN (fun gc3 => ?_) (fun g => by rw [key, gA, gC, gT, gc0, gc1, gc2, g]; simp)
    refine bO (by rw [hA, q0]; rfl) ?_
    refine bN (fun gs0 => ?_) (fun g => by rw [key, gA, gC, gT, gc0, gc1, gc2, gc3, g]; simp)
    exact bT rfl (fun g => by rw [key, gA, gC, gT, gc0, gc1, gc2, gc3, gs0, g]; rfl) (fun g => by rw [key, gA, gC, gT, gc0, gc1, gc2, gc3, gs0, g]; rfl)
  · 
    have q0 : ZaO s0 = true := hq s0 (by simp)
    have q1 : ZaO s1 = true := hq s1 (by simp)
    have key : mmay (h.on t) [s0, s1] = (amay (toZ h.w0) (toZ h.w1) (toZ h.w2) (toZ h.w3) && (clk h.ce && (!decide (((mZ t).length : Int) > 512) && (upto h.c0 0 h.ce && (upto h.c1 0 h.ce && (upto h.c2 0 h.ce && (upto h.c3 0 h.ce && (Zat h.w0 h.w1 h.w2 h.w3 s0 && (Zat h.w0 h.w1 h.w2 h.w3 s1 && (!decide (s1.id ≤ s0.id) && !t.any noEv)))))))))) := by
      show (amay (toZ h.w0) (toZ h.w1) (toZ h.w2) (toZ h.w3) && ((ck4 h.c0 h.c1 h.c2 h.c3 && clk h.ce) && (!decide (mx4 h.c0 h.c1 h.c2 h.c3 > h.ce) && (!decide ((([s0, s1] : List SesD).length : Int) > 4) && (!decide (((mZ t).length : Int) > 512) && (ZdB [s0, s1] && (([s0, s1] : List SesD).all (Zat h.w0 h.w1 h.w2 h.w3) && !(toZ (mZ t)).any noEv))))))) = _
      rw [ZfO, ← Bool.and_assoc (ck4 h.c0 h.c1 h.c2 h.c3 && clk h.ce), ZpC]
      simp only [ZdB, List.all_cons, List.all_nil, Bool.and_true, Bool.true_and, Zje, (by simp : (!decide ((([s0, s1] : List SesD).length : Int) > 4)) = true)]
      try ac_rfl
    refine Zjk (m := [(14, fTr h [s0, s1] t)]) (.cons Zg0 (.cons Zhq (.cons oUp2 (.cons Zp4 .nil)))) mixed (Zg5 hw hl) Tryz.func27 rfl rfl rfl ?_
    rw [Zv7]
    refine ⟨?_⟩
    refine bO hA ?_
    refine bN (fun gA => ?_) (fun g => by rw [key, g]; rfl)
    refine bN (fun gC => ?_) (fun g => by rw [key, gA, g]; rfl)
    refine bP (fun gT => ?_) (fun g => by rw [key, gA, gC, g]; rfl)
    refine bN (fun gc0 => ?_) (fun g => by rw [key, gA, gC, gT, g]; simp)
    refine bN (fun gc1 => ?_) (fun g => by rw [key, gA, gC, gT, gc0, g]; simp)
    refine bN (fun gc2 => ?_) (fun g => by rw [key, gA, gC, gT, gc0, gc1, g]; simp)
    refine bN (fun gc3 => ?_) (fun g => by rw [key, gA, gC, gT, gc0, gc1, gc2, g]; simp)
    refine bO (by rw [hA, q0]; rfl) ?_
    refine bN (fun gs0 => ?_) (fun g => by rw [key, gA, gC, gT, gc0, gc1, gc2, gc3, g]; simp)
    refine bO (by rw [hA, q1]; rfl) ?_
    refine bN (fun gs1 => ?_) (fun g => by rw [key, gA, gC, gT, gc0, gc1, gc2, gc3, gs0, g]; simp)
    refine bP (fun gi1 => ?_) (fun g => by rw [key, gA, gC, gT, gc0, gc1, gc2, gc3, gs0, gs1, g]; simp)
    exact bT rfl (fun g => by rw [key, gA, gC, gT, gc0, gc1, gc2, gc3, gs0, gs1, gi1, g]; rfl) (fun g => by rw [key, gA, gC, gT, gc0, gc1, gc2, gc3, gs0, gs1, gi1, g]; rfl)
  · 
    have q0 : ZaO s0 = true := hq s0 (by simp)
    have q1 : ZaO s1 = true := hq s1 (by simp)
    have q2 : ZaO s2 = true := hq s2 (by simp)
    have key : mmay (h.on t) [s0, s1, s2] = (amay (toZ h.w0) (toZ h.w1) (toZ h.w2) (toZ h.w3) && (clk h.ce && (!decide (((mZ t).length : Int) > 512) && (upto h.c0 0 h.ce && (upto h.c1 0 h.ce && (upto h.c2 0 h.ce && (upto h.c3 0 h.ce && (Zat h.w0 h.w1 h.w2 h.w3 s0 && (Zat h.w0 h.w1 h.w2 h.w3 s1 && (!decide (s1.id ≤ s0.id) && (Zat h.w0 h.w1 h.w2 h.w3 s2 && (!decide (s2.id ≤ s1.id) && !t.any noEv)))))))))))) := by
      show (amay (toZ h.w0) (toZ h.w1) (toZ h.w2) (toZ h.w3) && ((ck4 h.c0 h.c1 h.c2 h.c3 && clk h.ce) && (!decide (mx4 h.c0 h.c1 h.c2 h.c3 > h.ce) && (!decide ((([s0, s1, s2] : List SesD).length : Int) > 4) && (!decide (((mZ t).length : Int) > 512) && (ZdB [s0, s1, s2] && (([s0, s1, s2] : List SesD).all (Zat h.w0 h.w1 h.w2 h.w3) && !(toZ (mZ t)).any noEv))))))) = _
      rw [ZfO, ← Bool.and_assoc (ck4 h.c0 h.c1 h.c2 h.c3 && clk h.ce), ZpC]
      simp only [ZdB, List.all_cons, List.all_nil, Bool.and_true, Bool.true_and, Zje, (by simp : (!decide ((([s0, s1, s2] : List SesD).length : Int) > 4)) = true)]
      try ac_rfl
    refine Zjk (m := [(14, fTr h [s0, s1, s2] t)]) (.cons Zg0 (.cons Zhq (.cons oUp2 (.cons Zp4 .nil)))) mixed (Zg5 hw hl) Tryz.func27 rfl rfl rfl ?_
    rw [Zxj]
    refine ⟨?_⟩
    refine bO hA ?_
    refine bN (fun gA => ?_) (fun g => by rw [key, g]; rfl)
    refine bN (fun gC => ?_) (fun g => by rw [key, gA, g]; rfl)
    refine bP (fun gT => ?_) (fun g => by rw [key, gA, gC, g]; rfl)
    refine bN (fun gc0 => ?_) (fun g => by rw [key, gA, gC, gT, g]; simp)
    refine bN (fun gc1 => ?_) (fun g => by rw [key, gA, gC, gT, gc0, g]; simp)
    refine bN (fun gc2 => ?_) (fun g => by rw [key, gA, gC, gT, gc0, gc1, g]; simp)
    refine bN (fun gc3 => ?_) (fun g => by rw [key, gA, gC, gT, gc0, gc1, gc2, g]; simp)
    refine bO (by rw [hA, q0]; rfl) ?_
    refine bN (fun gs0 => ?_) (fun g => by rw [key, gA, gC, gT, gc0, gc1, gc2, gc3, g]; simp)
    refine bO (by rw [hA, q1]; rfl) ?_
    refine bN (fun gs1 => ?_) (fun g => by rw [key, gA, gC, gT, gc0, gc1, gc2, gc3, gs0, g]; simp)
    refine bP (fun gi1 => ?_) (fun g => by rw [key, gA, gC, gT, gc0, gc1, gc2, gc3, gs0, gs1, g]; simp)
    refine bO (by rw [hA, q2]; rfl) ?_
    refine bN (fun gs2 => ?_) (fun g => by rw [key, gA, gC, gT, gc0, gc1, gc2, gc3, gs0, gs1, gi1, g]; simp)
    refine bP (fun gi2 => ?_) (fun g => by rw [key, gA, gC, gT, gc0, gc1, gc2, gc3, gs0, gs1, gi1, gs2, g]; simp)
    exact bT rfl (fun g => by rw [key, gA, gC, gT, gc0, gc1, gc2, gc3, gs0, gs1, gi1, gs2, gi2, g]; rfl) (fun g => by rw [key, gA, gC, gT, gc0, gc1, gc2, gc3, gs0, gs1, gi1, gs2, gi2, g]; rfl)
  · 
    have q0 : ZaO s0 = true := hq s0 (by simp)
    have q1 : ZaO s1 = true := hq s1 (by simp)
    have q2 : ZaO s2 = true := hq s2 (by simp)
    have q3 : ZaO s3 = true := hq s3 (by simp)
    have key : mmay (h.on t) [s0, s1, s2, s3] = (amay (toZ h.w0) (toZ h.w1) (toZ h.w2) (toZ h.w3) && (clk h.ce && (!decide (((mZ t).length : Int) > 512) && (upto h.c0 0 h.ce && (upto h.c1 0 h.ce && (upto h.c2 0 h.ce && (upto h.c3 0 h.ce && (Zat h.w0 h.w1 h.w2 h.w3 s0 && (Zat h.w0 h.w1 h.w2 h.w3 s1 && (!decide (s1.id ≤ s0.id) && (Zat h.w0 h.w1 h.w2 h.w3 s2 && (!decide (s2.id ≤ s1.id) && (Zat h.w0 h.w1 h.w2 h.w3 s3 && (!decide (s3.id ≤ s2.id) && !t.any noEv)))))))))))))) := by
      show (amay (toZ h.w0) (toZ h.w1) (toZ h.w2) (toZ h.w3) && ((ck4 h.c0 h.c1 h.c2 h.c3 && clk h.ce) && (!decide (mx4 h.c0 h.c1 h.c2 h.c3 > h.ce) && (!decide ((([s0, s1, s2, s3] : List SesD).length : Int) > 4) && (!decide (((mZ t).length : Int) > 512) && (ZdB [s0, s1, s2, s3] && (([s0, s1, s2, s3] : List SesD).all (Zat h.w0 h.w1 h.w2 h.w3) && !(toZ (mZ t)).any noEv))))))) = _
      rw [ZfO, ← Bool.and_assoc (ck4 h.c0 h.c1 h.c2 h.c3 && clk h.ce), ZpC]
      simp only [ZdB, List.all_cons, List.all_nil, Bool.and_true, Bool.true_and, Zje, (by simp : (!decide ((([s0, s1, s2, s3] : List SesD).length : Int) > 4)) = true)]
      try ac_rfl
    refine Zjk (m := [(14, fTr h [s0, s1, s2, s3] t)]) (.cons Zg0 (.cons Zhq (.cons oUp2 (.cons Zp4 .nil)))) mixed (Zg5 hw hl) Tryz.func27 rfl rfl rfl ?_
    rw [Zwf]
    refine ⟨?_⟩
    refine bO hA ?_
    refine bN (fun gA => ?_) (fun g => by rw [key, g]; rfl)
    refine bN (fun gC => ?_) (fun g => by rw [key, gA, g]; rfl)
    refine bP (fun gT => ?_) (fun g => by rw [key, gA, gC, g]; rfl)
    refine bN (fun gc0 => ?_) (fun g => by rw [key, gA, gC, gT, g]; simp)
    refine bN (fun gc1 => ?_) (fun g => by rw [key, gA, gC, gT, gc0, g]; simp)
    refine bN (fun gc2 => ?_) (fun g => by rw [key, gA, gC, gT, gc0, gc1, g]; simp)
    refine bN (fun gc3 => ?_) (fun g => by rw [key, gA, gC, gT, gc0, gc1, gc2, g]; simp)
    refine bO (by rw [hA, q0]; rfl) ?_
    refine bN (fun gs0 => ?_) (fun g => by rw [key, gA, gC, gT, gc0, gc1, gc2, gc3, g]; simp)
    refine bO (by rw [hA, q1]; rfl) ?_
    refine bN (fun gs1 => ?_) (fun g => by rw [key, gA, gC, gT, gc0, gc1, gc2, gc3, gs0, g]; simp)
    refine bP (fun gi1 => ?_) (fun g => by rw [key, gA, gC, gT, gc0, gc1, gc2, gc3, gs0, gs1, g]; simp)
    refine bO (by rw [hA, q2]; rfl) ?_
    refine bN (fun gs2 => ?_) (fun g => by rw [key, gA, gC, gT, gc0, gc1, gc2, gc3, gs0, gs1, gi1, g]; simp)
    refine bP (fun gi2 => ?_) (fun g => by rw [key, gA, gC, gT, gc0, gc1, gc2, gc3, gs0, gs1, gi1, gs2, g]; simp)
    refine bO (by rw [hA, q3]; rfl) ?_
    refine bN (fun gs3 => ?_) (fun g => by rw [key, gA, gC, gT, gc0, gc1, gc2, gc3, gs0, gs1, gi1, gs2, gi2, g]; simp)
    refine bP (fun gi3 => ?_) (fun g => by rw [key, gA, gC, gT, gc0, gc1, gc2, gc3, gs0, gs1, gi1, gs2, gi2, gs3, g]; simp)
    exact bT rfl (fun g => by rw [key, gA, gC, gT, gc0, gc1, gc2, gc3, gs0, gs1, gi1, gs2, gi2, gs3, gi3, g]; rfl) (fun g => by rw [key, gA, gC, gT, gc0, gc1, gc2, gc3, gs0, gs1, gi1, gs2, gi2, gs3, gi3, g]; rfl)
  · refine Zjk (l := [(68, Zce), (69, sB clk), (56, sUp)]) (m := [(4, fun _ _ => False)]) (.cons Zg0 (.cons Zhq (.cons oUp2 .nil))) mixed Zmx Tryz.func27 rfl rfl rfl ?_
    rw [ZvA]
    refine ⟨?_⟩
    have h6 : mmay (h.on t) (s0 :: s1 :: s2 :: s3 :: s4 :: l) = false := by
      unfold mmay
      rw [(by simp; omega : (!decide (((s0 :: s1 :: s2 :: s3 :: s4 :: l).length : Int) > 4)) = false)]
      simp
    rw [h6]
    refine bO hA (bN (fun _ => bN (fun _ => bP (fun g => ?_) fun _ => rfl) fun _ => rfl) fun _ => rfl)
    simp at g
    omega
theorem cRM (h : Mh) (ss : List SesD) (hok : okM h ss = true) : CT Tryz.prog 27 [.agg (macL 0 h ss)] (B (mmay h ss)) := by
  obtain ⟨h1, h2, h3⟩ := Zby hok
  obtain ⟨e, hw, hl⟩ := Zah h2
  have := cRMt h ss (toZ h.tr) h1 hw (by rw [Zan]; exact hl) h3
  have eh : h.on (toZ h.tr) = h := by unfold Mh.on; rw [← e]
  rwa [eh] at this
def sRMm : Spec := fun ds Q => match ds with
  | [d] => macA d fun h ss => cond (okM h ss) (Q (B (mmay h ss))) False
  | _ => False
theorem oRMm : Zad Tryz.prog 27 sRMm := o_al Tryz.func27 (by kernel_rfl) rfl fun ds Q h => by
  unfold sRMm at h; split at h
  · obtain ⟨m, ss, h, r⟩ := ZbL h
    obtain ⟨h1, h2⟩ := Zag h
    exact ⟨_, _, .cons r .nil, cRM m ss h1, rfl, rfl, h2⟩
  · exact h.elim
end

section
open Go Go.Proofs
theorem Zjm {R : List (List D)} (h : smR 4398046510977 R = true) : allV R = true ∧ decide (R.length * 32 ≤ 140737488355328) = true ∧ decide (R.length ≤ 9223372036854775807) = true ∧ (R.all fun r => r.all D.keeps) = true := by
  obtain ⟨a, b, c⟩ := Zac h
  exact ⟨a, decide_eq_true (by omega), decide_eq_true (by omega), c⟩
theorem Znk {R : List (List D)} (h : smR 5864062014635 R = true) : allV R = true ∧ decide (R.length * 24 ≤ 140737488355328) = true ∧ decide (R.length ≤ 9223372036854775807) = true ∧ (R.all fun r => r.all D.keeps) = true := by
  obtain ⟨a, b, c⟩ := Zac h
  exact ⟨a, decide_eq_true (by omega), decide_eq_true (by omega), c⟩
theorem ZvV (s : SesD) (K : DV → Prop) : (ask Tryz.prog [] Tryz.f98 [.agg (sesL 0 s)] K) = (bif allV s.pg then bif true && (decide ((0 + List.length s.pg) * 32 ≤ 140737488355328) && decide (0 + List.length s.pg ≤ 9223372036854775807)) then bif allV s.rd then bif true && (decide ((0 + List.length s.rd) * 24 ≤ 140737488355328) && decide (0 + List.length s.rd ≤ 9223372036854775807)) then bif allV s.wt then bif true && (decide ((0 + List.length s.wt) * 24 ≤ 140737488355328) && decide (0 + List.length s.wt ≤ 9223372036854775807)) then bif decide (0 + List.length s.pg ≤ List.length ([] ++ s.pg)) && List.all ([] ++ s.pg) fun r => List.all r D.keeps then bif decide (0 + List.length s.rd ≤ List.length ([] ++ s.rd)) && List.all ([] ++ s.rd) fun r => List.all r D.keeps then bif decide (0 + List.length s.wt ≤ List.length ([] ++ s.wt)) && List.all ([] ++ s.wt) fun r => List.all r D.keeps then K (DV.agg [vN s.id, vN s.lb, vN s.cl, D.s (1) (4) (List.take (0 + List.length s.pg) ([] ++ s.pg)) (List.take (0 + List.length s.pg - (0 + List.length s.pg)) (List.drop (0 + List.length s.pg) ([] ++ s.pg))), vN s.st, vN s.pc, vN s.r0, vN s.r1, vN s.r2, vN s.r3, D.s (1) (3) (List.take (0 + List.length s.rd) ([] ++ s.rd)) (List.take (0 + List.length s.rd - (0 + List.length s.rd)) (List.drop (0 + List.length s.rd) ([] ++ s.rd))), D.s (1) (3) (List.take (0 + List.length s.wt) ([] ++ s.wt)) (List.take (0 + List.length s.wt - (0 + List.length s.wt)) (List.drop (0 + List.length s.wt) ([] ++ s.wt))), vN s.at', vN s.sp, vN s.tr, vN s.rs, vN s.to]) else False else False else False else False else False else False else False else False else False) := by kernel_rfl
theorem Zvx (s : SesD) (hs : smS s = true) : CT Tryz.prog 98 [.agg (sesL 0 s)] (.agg (sesL 1 s)) := by
  obtain ⟨h1, h2, h3⟩ := ZaD hs
  obtain ⟨a1, a2, a3, a4⟩ := Zjm h1
  obtain ⟨b1, b2, b3, b4⟩ := Znk h2
  obtain ⟨c1, c2, c3, c4⟩ := Znk h3
  refine ct_s .nil mixed Tryz.func98 rfl rfl rfl ?_
  rw [ZvV]
  refine ⟨?_⟩
  simp only [a1, a2, a3, a4, b1, b2, b3, b4, c1, c2, c3, c4, Nat.zero_add, List.nil_append, List.append_nil, Nat.le_refl, decide_true, Bool.and_self, Bool.true_and, cond_true, ZbO, Nat.add_zero, Nat.sub_self, List.take_zero]
  rfl
theorem ZpP : Zad Tryz.prog 98 ZcK := o_al Tryz.func98 (by kernel_rfl) rfl fun ds Q h => by
  unfold ZcK at h; split at h
  · obtain ⟨s, h, r⟩ := ZbN h
    obtain ⟨h1, h2⟩ := Zag h
    exact ⟨_, _, .cons r .nil, Zvx s h1, Ze0 h1, rfl, h2⟩
  · exact h.elim
theorem ZwD (s : SesD) (K : DV → Prop) : (ask Tryz.prog [] Tryz.f47 [.agg (sesL 0 s)] K) = (bif allV s.pg then bif true && (decide ((0 + List.length s.pg) * 32 ≤ 140737488355328) && decide (0 + List.length s.pg ≤ 9223372036854775807)) then bif allV s.rd then bif true && (decide ((0 + List.length s.rd) * 24 ≤ 140737488355328) && decide (0 + List.length s.rd ≤ 9223372036854775807)) then bif allV s.wt then bif true && (decide ((0 + List.length s.wt) * 24 ≤ 140737488355328) && decide (0 + List.length s.wt ≤ 9223372036854775807)) then bif decide (0 + List.length s.pg ≤ List.length ([] ++ s.pg)) && List.all ([] ++ s.pg) fun r => List.all r D.keeps then bif decide (0 + List.length s.rd ≤ List.length ([] ++ s.rd)) && List.all ([] ++ s.rd) fun r => List.all r D.keeps then bif decide (0 + List.length s.wt ≤ List.length ([] ++ s.wt)) && List.all ([] ++ s.wt) fun r => List.all r D.keeps then K (DV.agg [vN s.id, vN s.lb, vN s.cl, D.s (1) (4) (List.take (0 + List.length s.pg) ([] ++ s.pg)) (List.take (0 + List.length s.pg - (0 + List.length s.pg)) (List.drop (0 + List.length s.pg) ([] ++ s.pg))), vN s.st, vN s.pc, vN s.r0, vN s.r1, vN s.r2, vN s.r3, D.s (1) (3) (List.take (0 + List.length s.rd) ([] ++ s.rd)) (List.take (0 + List.length s.rd - (0 + List.length s.rd)) (List.drop (0 + List.length s.rd) ([] ++ s.rd))), D.s (1) (3) (List.take (0 + List.length s.wt) ([] ++ s.wt)) (List.take (0 + List.length s.wt - (0 + List.length s.wt)) (List.drop (0 + List.length s.wt) ([] ++ s.wt))), vN s.at', vN s.sp, vN s.tr, vN s.rs, vN s.to]) else False else False else False else False else False else False else False else False else False) := by kernel_rfl
theorem ZwW (s : SesD) (hs : smS s = true) : CT Tryz.prog 47 [.agg (sesL 0 s)] (.agg (sesL 1 s)) := by
  obtain ⟨h1, h2, h3⟩ := ZaD hs
  obtain ⟨a1, a2, a3, a4⟩ := Zjm h1
  obtain ⟨b1, b2, b3, b4⟩ := Znk h2
  obtain ⟨c1, c2, c3, c4⟩ := Znk h3
  refine ct_s .nil mixed Tryz.func47 rfl rfl rfl ?_
  rw [ZwD]
  refine ⟨?_⟩
  simp only [a1, a2, a3, a4, b1, b2, b3, b4, c1, c2, c3, c4, Nat.zero_add, List.nil_append, List.append_nil, Nat.le_refl, decide_true, Bool.and_self, Bool.true_and, cond_true, ZbO, Nat.add_zero, Nat.sub_self, List.take_zero]
  rfl
theorem Ztz : Zad Tryz.prog 47 ZcK := o_al Tryz.func47 (by kernel_rfl) rfl fun ds Q h => by
  unfold ZcK at h; split at h
  · obtain ⟨s, h, r⟩ := ZbN h
    obtain ⟨h1, h2⟩ := Zag h
    exact ⟨_, _, .cons r .nil, ZwW s h1, Ze0 h1, rfl, h2⟩
  · exact h.elim
theorem Zve (h : Mh) (K : DV → Prop) : (askH Tryz.prog (hkM [(97, ZbR), (98, ZcK)] [] []) Tryz.f58 [.agg (macL 0 h [])] K) = (bif okC4 h.w0 h.w1 h.w2 h.w3 then bif allV h.tr then bif true && (decide ((0 + List.length h.tr) * 32 ≤ 140737488355328) && decide (0 + List.length h.tr ≤ 9223372036854775807)) then bif kX h.w0 then bif kX h.w1 then bif kX h.w2 then bif kX h.w3 then bif decide (0 + List.length h.tr ≤ List.length ([] ++ h.tr)) && List.all ([] ++ h.tr) fun r => List.all r D.keeps then K (DV.agg [D.s (1) (3) (tC h.w0) (tD h.w0), D.s (1) (3) (tC h.w1) (tD h.w1), D.s (1) (3) (tC h.w2) (tD h.w2), D.s (1) (3) (tC h.w3) (tD h.w3), vN h.c0, vN h.c1, vN h.c2, vN h.c3, vN h.ce, nilV, D.s (1) (4) (List.take (0 + List.length h.tr) ([] ++ h.tr)) (List.take (0 + List.length h.tr - (0 + List.length h.tr)) (List.drop (0 + List.length h.tr) ([] ++ h.tr)))]) else False else False else False else False else False else False else False else False) := by kernel_rfl
theorem ZuU (h : Mh) (s0 : SesD) (K : DV → Prop) : (askH Tryz.prog (hkM [(97, ZbR), (98, ZcK)] [] []) Tryz.f58 [.agg (macL 0 h [s0])] K) = (bif okC4 h.w0 h.w1 h.w2 h.w3 then bif smS s0 then bif allV h.tr then bif true && (decide ((0 + List.length h.tr) * 32 ≤ 140737488355328) && decide (0 + List.length h.tr ≤ 9223372036854775807)) then bif kX h.w0 then bif kX h.w1 then bif kX h.w2 then bif kX h.w3 then bif kX s0.pg then bif kX s0.rd then bif kX s0.wt then bif decide (0 + List.length h.tr ≤ List.length ([] ++ h.tr)) && List.all ([] ++ h.tr) fun r => List.all r D.keeps then K (DV.agg [D.s (1) (3) (tC h.w0) (tD h.w0), D.s (1) (3) (tC h.w1) (tD h.w1), D.s (1) (3) (tC h.w2) (tD h.w2), D.s (1) (3) (tC h.w3) (tD h.w3), vN h.c0, vN h.c1, vN h.c2, vN h.c3, vN h.ce, D.s (1) (17) [(sTt s0)] [], D.s (1) (4) (List.take (0 + List.length h.tr) ([] ++ h.tr)) (List.take (0 + List.length h.tr - (0 + List.length h.tr)) (List.drop (0 + List.length h.tr) ([] ++ h.tr)))]) else False else False else False else False else False else False else False else False else False else False else False else False) := by kernel_rfl
theorem ZuR (h : Mh) (s0 s1 : SesD) (K : DV → Prop) : (askH Tryz.prog (hkM [(97, ZbR), (98, ZcK)] [] []) Tryz.f58 [.agg (macL 0 h [s0, s1])] K) = (bif okC4 h.w0 h.w1 h.w2 h.w3 then bif smS s0 then bif smS s1 then bif allV h.tr then bif true && (decide ((0 + List.length h.tr) * 32 ≤ 140737488355328) && decide (0 + List.length h.tr ≤ 9223372036854775807)) then bif kX h.w0 then bif kX h.w1 then bif kX h.w2 then bif kX h.w3 then bif kX s0.pg then bif kX s0.rd then bif kX s0.wt then bif kX s1.pg then bif kX s1.rd then bif kX s1.wt then bif decide (0 + List.length h.tr ≤ List.length ([] ++ h.tr)) && List.all ([] ++ h.tr) fun r => List.all r D.keeps then K (DV.agg [D.s (1) (3) (tC h.w0) (tD h.w0), D.s (1) (3) (tC h.w1) (tD h.w1), D.s (1) (3) (tC h.w2) (tD h.w2), D.s (1) (3) (tC h.w3) (tD h.w3), vN h.c0, vN h.c1, vN h.c2, vN h.c3, vN h.ce, D.s (1) (17) [(sTt s0), (sTt s1)] [], D.s (1) (4) (List.take (0 + List.length h.tr) ([] ++ h.tr)) (List.take (0 + List.length h.tr - (0 + List.length h.tr)) (List.drop (0 + List.length h.tr) ([] ++ h.tr)))]) else False else False else False else False else False else False else False else False else False else False else False else False else False else False else False else False) := by kernel_rfl
theorem Zuc (h : Mh) (s0 s1 s2 : SesD) (K : DV → Prop) : (askH Tryz.prog (hkM [(97, ZbR), (98, ZcK)] [] []) Tryz.f58 [.agg (macL 0 h [s0, s1, s2])] K) = (bif okC4 h.w0 h.w1 h.w2 h.w3 then bif smS s0 then bif smS s1 then bif smS s2 then bif allV h.tr then bif true && (decide ((0 + List.length h.tr) * 32 ≤ 140737488355328) && decide (0 + List.length h.tr ≤ 9223372036854775807)) then bif kX h.w0 then bif kX h.w1 then bif kX h.w2 then bif kX h.w3 then bif kX s0.pg then bif kX s0.rd then bif kX s0.wt then bif kX s1.pg then bif kX s1.rd then bif kX s1.wt then bif kX s2.pg then bif kX s2.rd then bif kX s2.wt then bif decide (0 + List.length h.tr ≤ List.length ([] ++ h.tr)) && List.all ([] ++ h.tr) fun r => List.all r D.keeps then K (DV.agg [D.s (1) (3) (tC h.w0) (tD h.w0), D.s (1) (3) (tC h.w1) (tD h.w1), D.s (1) (3) (tC h.w2) (tD h.w2), D.s (1) (3) (tC h.w3) (tD h.w3), vN h.c0, vN h.c1, vN h.c2, vN h.c3, vN h.ce, D.s (1) (17) [(sTt s0), (sTt s1), (sTt s2)] [], D.s (1) (4) (List.take (0 + List.length h.tr) ([] ++ h.tr)) (List.take (0 + List.length h.tr - (0 + List.length h.tr)) (List.drop (0 + List.length h.tr) ([] ++ h.tr)))]) else False else False else False else False else False else False else False else False else False else False else False else False else False else False else False else False else False else False else False else False) := by kernel_rfl
theorem ZuZ (h : Mh) (s0 s1 s2 s3 : SesD) (K : DV → Prop) : (askH Tryz.prog (hkM [(97, ZbR), (98, ZcK)] [] []) Tryz.f58 [.agg (macL 0 h [s0, s1, s2, s3])] K) = (bif okC4 h.w0 h.w1 h.w2 h.w3 then bif smS s0 then bif smS s1 then bif smS s2 then bif smS s3 then bif allV h.tr then bif true && (decide ((0 + List.length h.tr) * 32 ≤ 140737488355328) && decide (0 + List.length h.tr ≤ 9223372036854775807)) then bif kX h.w0 then bif kX h.w1 then bif kX h.w2 then bif kX h.w3 then bif kX s0.pg then bif kX s0.rd then bif kX s0.wt then bif kX s1.pg then bif kX s1.rd then bif kX s1.wt then bif kX s2.pg then bif kX s2.rd then bif kX s2.wt then bif kX s3.pg then bif kX s3.rd then bif kX s3.wt then bif decide (0 + List.length h.tr ≤ List.length ([] ++ h.tr)) && List.all ([] ++ h.tr) fun r => List.all r D.keeps then K (DV.agg [D.s (1) (3) (tC h.w0) (tD h.w0), D.s (1) (3) (tC h.w1) (tD h.w1), D.s (1) (3) (tC h.w2) (tD h.w2), D.s (1) (3) (tC h.w3) (tD h.w3), vN h.c0, vN h.c1, vN h.c2, vN h.c3, vN h.ce, D.s (1) (17) [(sTt s0), (sTt s1), (sTt s2), (sTt s3)] [], D.s (1) (4) (List.take (0 + List.length h.tr) ([] ++ h.tr)) (List.take (0 + List.length h.tr - (0 + List.length h.tr)) (List.drop (0 + List.length h.tr) ([] ++ h.tr)))]) else False else False else False else False else False else False else False else False else False else False else False else False else False else False else False else False else False else False else False else False else False else False else False else False) := by kernel_rfl
theorem Zvl (h : Mh) (ss : List SesD) (hl : ss.length ≤ 4) (hm : smM h ss = true) : CT Tryz.prog 58 [.agg (macL 0 h ss)] (.agg (macL 1 h ss)) := by
  have h4 := Zni hm
  obtain ⟨⟨a0, a1, a2, a3⟩, a4, a5⟩ := Zdc hm
  obtain ⟨_, _, b0⟩ := Zac a0
  obtain ⟨_, _, b1⟩ := Zac a1
  obtain ⟨_, _, b2⟩ := Zac a2
  obtain ⟨_, _, b3⟩ := Zac a3
  obtain ⟨t1, t2, t3, t4⟩ := Zjm a4
  rcases ss with _ | ⟨s0, _ | ⟨s1, _ | ⟨s2, _ | ⟨s3, _ | ⟨s4, l⟩⟩⟩⟩⟩
  · refine ZsU (.cons ZkU (.cons ZpP .nil)) .nil .nil mixed Tryz.func58 rfl rfl rfl ?_
    rw [Zve]
    refine ⟨?_⟩
    simp only [kX, tC, tD, sTt]
    simp only [h4, b0, b1, b2, b3, t1, t2, t3, t4, Nat.zero_add, List.nil_append, List.append_nil, Nat.le_refl, decide_true, Bool.and_self, Bool.true_and, cond_true, ZbO, Nat.add_zero, Nat.sub_self, List.take_zero]
    exact .aggO (.cons (.refl _) (.cons (.refl _) (.cons (.refl _) (.cons (.refl _) (.cons (.refl _) (.cons (.refl _) (.cons (.refl _) (.cons (.refl _) (.cons (.refl _) (.cons (.nil 17) (.cons (.refl _) .nil)))))))))))
  · have q0 := a5 s0 (by simp)
    obtain ⟨p0, r0, w0⟩ := ZaD q0
    obtain ⟨_, _, x0⟩ := Zac p0
    obtain ⟨_, _, y0⟩ := Zac r0
    obtain ⟨_, _, z0⟩ := Zac w0
    refine ct_m (.cons ZkU (.cons ZpP .nil)) .nil .nil mixed Tryz.func58 rfl rfl rfl ?_
    rw [ZuU]
    refine ⟨?_⟩
    simp only [kX, tC, tD, sTt]
    simp only [h4, b0, b1, b2, b3, t1, t2, t3, t4, q0, x0, y0, z0, Nat.zero_add, List.nil_append, List.append_nil, Nat.le_refl, decide_true, Bool.and_self, Bool.true_and, cond_true, ZbO, Nat.add_zero, Nat.sub_self, List.take_zero]
    rfl
  · have q0 := a5 s0 (by simp)
    obtain ⟨p0, r0, w0⟩ := ZaD q0
    obtain ⟨_, _, x0⟩ := Zac p0
    obtain ⟨_, _, y0⟩ := Zac r0
    obtain ⟨_, _, z0⟩ := Zac w0
    have q1 := a5 s1 (by simp)
    obtain ⟨p1, r1, w1⟩ := ZaD q1
    obtain ⟨_, _, x1⟩ := Zac p1
    obtain ⟨_, _, y1⟩ := Zac r1
    obtain ⟨_, _, z1⟩ := Zac w1
    refine ct_m (.cons ZkU (.cons ZpP .nil)) .nil .nil mixed Tryz.func58 rfl rfl rfl ?_
    rw [ZuR]
    refine ⟨?_⟩
    simp only [kX, tC, tD, sTt]
    simp only [h4, b0, b1, b2, b3, t1, t2, t3, t4, q0, x0, y0, z0, q1, x1, y1, z1, Nat.zero_add, List.nil_append, List.append_nil, Nat.le_refl, decide_true, Bool.and_self, Bool.true_and, cond_true, ZbO, Nat.add_zero, Nat.sub_self, List.take_zero]
    rfl
  · have q0 := a5 s0 (by simp)
    obtain ⟨p0, r0, w0⟩ := ZaD q0
    obtain ⟨_, _, x0⟩ := Zac p0
    obtain ⟨_, _, y0⟩ := Zac r0
    obtain ⟨_, _, z0⟩ := Zac w0
    have q1 := a5 s1 (by simp)
    obtain ⟨p1, r1, w1⟩ := ZaD q1
    obtain ⟨_, _, x1⟩ := Zac p1
    obtain ⟨_, _, y1⟩ := Zac r1
    obtain ⟨_, _, z1⟩ := Zac w1
    have q2 := a5 s2 (by simp)
    obtain ⟨p2, r2, w2⟩ := ZaD q2
    obtain ⟨_, _, x2⟩ := Zac p2
    obtain ⟨_, _, y2⟩ := Zac r2
    obtain ⟨_, _, z2⟩ := Zac w2
    refine ct_m (.cons ZkU (.cons ZpP .nil)) .nil .nil mixed Tryz.func58 rfl rfl rfl ?_
    rw [Zuc]
    refine ⟨?_⟩
    simp only [kX, tC, tD, sTt]
    simp only [h4, b0, b1, b2, b3, t1, t2, t3, t4, q0, x0, y0, z0, q1, x1, y1, z1, q2, x2, y2, z2, Nat.zero_add, List.nil_append, List.append_nil, Nat.le_refl, decide_true, Bool.and_self, Bool.true_and, cond_true, ZbO, Nat.add_zero, Nat.sub_self, List.take_zero]
    rfl
  · have q0 := a5 s0 (by simp)
    obtain ⟨p0, r0, w0⟩ := ZaD q0
    obtain ⟨_, _, x0⟩ := Zac p0
    obtain ⟨_, _, y0⟩ := Zac r0
    obtain ⟨_, _, z0⟩ := Zac w0
    have q1 := a5 s1 (by simp)
    obtain ⟨p1, r1, w1⟩ := ZaD q1
    obtain ⟨_, _, x1⟩ := Zac p1
    obtain ⟨_, _, y1⟩ := Zac r1
    obtain ⟨_, _, z1⟩ := Zac w1
    have q2 := a5 s2 (by simp)
    obtain ⟨p2, r2, w2⟩ := ZaD q2
    obtain ⟨_, _, x2⟩ := Zac p2
    obtain ⟨_, _, y2⟩ := Zac r2
    obtain ⟨_, _, z2⟩ := Zac w2
    have q3 := a5 s3 (by simp)
    obtain ⟨p3, r3, w3⟩ := ZaD q3
    obtain ⟨_, _, x3⟩ := Zac p3
    obtain ⟨_, _, y3⟩ := Zac r3
    obtain ⟨_, _, z3⟩ := Zac w3
    refine ct_m (.cons ZkU (.cons ZpP .nil)) .nil .nil mixed Tryz.func58 rfl rfl rfl ?_
    rw [ZuZ]
    refine ⟨?_⟩
    simp only [kX, tC, tD, sTt]
    simp only [h4, b0, b1, b2, b3, t1, t2, t3, t4, q0, x0, y0, z0, q1, x1, y1, z1, q2, x2, y2, z2, q3, x3, y3, z3, Nat.zero_add, List.nil_append, List.append_nil, Nat.le_refl, decide_true, Bool.and_self, Bool.true_and, cond_true, ZbO, Nat.add_zero, Nat.sub_self, List.take_zero]
    rfl
  · simp at hl
theorem ZvZ : Zad Tryz.prog 58 sCop := o_al Tryz.func58 (by kernel_rfl) rfl fun ds Q h => by
  unfold sCop at h; split at h
  · obtain ⟨m, ss, h, r⟩ := ZbL h
    obtain ⟨h1, h2⟩ := Zag h
    rw [Bool.and_eq_true] at h1
    exact ⟨_, _, .cons r .nil, Zvl m ss (Nat.le_of_ble_eq_true h1.1) h1.2, Ziz h1.2, rfl, h2⟩
  · exact h.elim
theorem Zun (h : Mh) (K : DV → Prop) : (askH Tryz.prog (hkM [(46, ZbR), (47, ZcK)] [] []) Tryz.f19 [.agg (macL 0 h [])] K) = (bif okC4 h.w0 h.w1 h.w2 h.w3 then bif allV h.tr then bif true && (decide ((0 + List.length h.tr) * 32 ≤ 140737488355328) && decide (0 + List.length h.tr ≤ 9223372036854775807)) then bif kX h.w0 then bif kX h.w1 then bif kX h.w2 then bif kX h.w3 then bif decide (0 + List.length h.tr ≤ List.length ([] ++ h.tr)) && List.all ([] ++ h.tr) fun r => List.all r D.keeps then K (DV.agg [D.s (1) (3) (tC h.w0) (tD h.w0), D.s (1) (3) (tC h.w1) (tD h.w1), D.s (1) (3) (tC h.w2) (tD h.w2), D.s (1) (3) (tC h.w3) (tD h.w3), vN h.c0, vN h.c1, vN h.c2, vN h.c3, vN h.ce, nilV, D.s (1) (4) (List.take (0 + List.length h.tr) ([] ++ h.tr)) (List.take (0 + List.length h.tr - (0 + List.length h.tr)) (List.drop (0 + List.length h.tr) ([] ++ h.tr)))]) else False else False else False else False else False else False else False else False) := by kernel_rfl
end

section
open Go Go.Proofs
theorem CTN.args {P : Program} {f : FuncId} {ds es : List DV} {r : DV} (h : All2 AL ds es) (hc : CTN P f es r) : CTN P f ds r := fun w vs S G hov => by
  refine hc w vs S G ?_
  cases hov with
  | tup _ _ _ sub h1 h2 h3 h4 =>
    refine .tup vs es S sub (by rw [← h.len]; exact h1) (fun i e hi => ?_) h3 h4
    obtain ⟨d, g1, g2⟩ := h.get hi
    exact g2 _ _ _ _ (h2 i d g1)
theorem Zi0 {P : Program} {f : FuncId} {s s' : Spec} (hs : Zad P f s) (hd : ∀ ds Q, s' ds Q → ∃ es, All2 AL ds es ∧ s es Q) : Zad P f s' := fun ds Q h => by
  obtain ⟨es, h1, h2⟩ := hd ds Q h
  obtain ⟨hg, r, hc, hp, hf, hq⟩ := hs es Q h2
  exact ⟨hg, r, hc.args h1, .inr (.inr ((ZkF hc hp).args h1)), hf, hq⟩
def ZoE (cs : List D) (K : List (List D) → List (List D) → List (List D) → List (List D) → Prop) : Prop := match cs with
  | [a, b, c, d] => Zcg 1 a fun a => Zcg 1 b fun b => Zcg 1 c fun c => Zcg 1 d fun d => K a b c d
  | _ => False
theorem ZlJ {cs : List D} {K : List (List D) → List (List D) → List (List D) → List (List D) → Prop} (h : ZoE cs K) : ∃ a b c d, K a b c d ∧ All2 RD cs [.s 0 1 a [], .s 0 1 b [], .s 0 1 c [], .s 0 1 d []] := by
  unfold ZoE at h
  split at h
  · obtain ⟨a, h, e0⟩ := Zay h
    obtain ⟨b, h, e1⟩ := Zay h
    obtain ⟨c, h, e2⟩ := Zay h
    obtain ⟨d, h, e3⟩ := Zay h
    exact ⟨a, b, c, d, h, .cons e0 (.cons e1 (.cons e2 (.cons e3 .nil)))⟩
  · exact h.elim
def ZnB : Spec := fun ds Q => match ds with
  | [.agg cs] => cond (Zkl cs) (ZoE cs fun R0 R1 R2 R3 => cond (okV4 R0 R1 R2 R3) (cond (amay (toZ (mW R0)) (toZ (mW R1)) (toZ (mW R2)) (toZ (mW R3))) (Q (.tup [dO (mW R0) (mW R1) (mW R2) (mW R3), I 0])) (Q (.tup [dNil, I 400]))) False) False
  | _ => False
theorem Zmw : ∀ ds Q, ZnB ds Q → ∃ es, All2 AL ds es ∧ sNew es Q := fun ds Q h => by
  unfold ZnB at h; split at h
  · obtain ⟨h0, h⟩ := Zag h
    obtain ⟨a, b, c, d, h, r⟩ := ZlJ h
    exact ⟨_, .cons (.agg r h0 rfl) .nil, h⟩
  · exact h.elim
theorem ZwO : Zad Tryz.prog 48 ZnB := Zi0 oNew Zmw
theorem ZuL : Zad Tryz.prog 50 ZnB := Zi0 Zto Zmw
def Znn (cs : List D) (K : Int → Int → Int → List (List D) → Prop) : Prop := match cs with
  | [a, b, c, d] => ZbK a fun a => ZbK b fun b => ZbK c fun c => Zcg 4 d fun d => K a b c d
  | _ => False
theorem Zgs {cs : List D} {K : Int → Int → Int → List (List D) → Prop} (h : Znn cs K) : ∃ a b c d, K a b c d ∧ All2 RD cs [vN a, vN b, vN c, .s 0 4 d []] := by
  unfold Znn at h
  split at h
  · obtain ⟨a, h, e0⟩ := Zap h
    obtain ⟨b, h, e1⟩ := Zap h
    obtain ⟨c, h, e2⟩ := Zap h
    obtain ⟨d, h, e3⟩ := Zay h
    exact ⟨a, b, c, d, h, .cons e0 (.cons e1 (.cons e2 (.cons e3 .nil)))⟩
  · exact h.elim
def Zhw : Spec := fun ds Q => match ds with
  | [.agg cs] => cond (Zkl cs) (Znn cs fun i g c R => cond (okZ 4 R && decide (R.length ≤ 4398046510977)) (cond (smay i g c (toZ R)) (Q (.tup [Zl7 i g c (.s 1 4 R []), I 0])) (Q (.tup [Zl7 0 0 0 nilD, I 1100]))) False) False
  | _ => False
theorem ZjB : ∀ ds Q, Zhw ds Q → ∃ es, All2 AL ds es ∧ ZnZ es Q := fun ds Q h => by
  unfold Zhw at h; split at h
  · obtain ⟨h0, h⟩ := Zag h
    obtain ⟨a, b, c, d, h, r⟩ := Zgs h
    exact ⟨_, .cons (.agg r h0 rfl) .nil, h⟩
  · exact h.elim
theorem ZuG : Zad Tryz.prog 49 Zhw := Zi0 Zur ZjB
theorem ZsL : Zad Tryz.prog 51 Zhw := Zi0 ZrQ ZjB
def Zt8 : Inl := inlM Tryz.prog [(50, ZnB), (51, Zhw), (27, sRMm)] [] [] Tryz.f21
end

section
open Go Go.Proofs
theorem ZwS (h : Mh) (ss : List SesD) (at' : Int) (K : DV → Prop) : (ask Tryz.prog [(27, sAtD [.agg (macL 0 h ss)] (B (mmay h ss)))] Tryz.f55 [.agg (macL 0 h ss), I at'] K) = ([DV.agg (macL (0) h ss)] = [DV.agg (macL (0) h ss)] ∧ bif mmay h ss then bif decide (at' ≥ 0) then K (DV.c (D.v (Value.bool (decide (at' < @Nat.cast Int _ (List.length (List.map (sesL (0)) ss))))))) else K (DV.c (D.v (Value.bool false))) else K (DV.c (D.v (Value.bool false)))) := by kernel_rfl
theorem gRM : Goes Tryz.prog 27 := Zaq Tryz.func27 (by kernel_rfl) rfl
theorem ZuY (h : Mh) (ss : List SesD) (i : Int) (hok : okM h ss = true) : CT Tryz.prog 55 [.agg (macL 0 h ss), I i] (B (Zcj h ss i)) := by
  refine ct_s (.cons (oAtD gRM (cRM h ss hok) rfl rfl) .nil) mixed Tryz.func55 rfl rfl rfl ?_
  rw [ZwS]
  refine ⟨rfl, ?_⟩
  unfold Zcj
  rw [List.length_map]
  simp only [bifK]
def ZsQ : Spec := fun ds Q => match ds with
  | [d, e] => macA d fun h ss => inA e fun i => cond (okM h ss) (Q (B (Zcj h ss i))) False
  | _ => False
theorem ZwK : Zad Tryz.prog 55 ZsQ := o_al Tryz.func55 (by kernel_rfl) rfl fun ds Q h => by
  unfold ZsQ at h; split at h
  · obtain ⟨m, ss, h, r⟩ := ZbL h
    obtain ⟨i, h, rfl⟩ := Zrk h
    obtain ⟨h1, h2⟩ := Zag h
    exact ⟨_, _, .cons r (.cons (.refl _) .nil), ZuY m ss i h1, rfl, rfl, h2⟩
  · exact h.elim
def iRtl : Inl := inlM Tryz.prog [] [] [] Tryz.f57
theorem Zlt : Zbt Tryz.prog 57 iRtl := Zbl .nil .nil .nil mixed Tryz.func57 rfl (Zaq Tryz.func57 (by kernel_rfl) rfl)
theorem Zpy (h : Mh) (ss : List SesD) (i k : Int) : ZdR h ss i k = (Zcj h ss i && upto k 0 6) := by
  unfold ZdR upto
  congr 1
  rw [Bool.eq_iff_iff]
  simp only [Bool.and_eq_true, Bool.not_eq_true', decide_eq_true_eq, decide_eq_false_iff_not]
  omega
end

section
open Go Go.Proofs
def frcI (n : Int) (K : Int → Prop) : Prop := match n with
  | .ofNat m => frcN m fun m => K (.ofNat m)
  | .negSucc m => frcN m fun m => K (.negSucc m)
theorem Zqd {n : Int} {K : Int → Prop} (h : frcI n K) : K n := by
  unfold frcI at h; split at h
  · exact Zbj h
  · exact Zbj h
def ZqN (f : D → (D → Prop) → Prop) : List D → (List D → Prop) → Prop
  | [], K => K []
  | d :: l, K => f d fun d => ZqN f l fun l => K (d :: l)
def Zrc (f : D → (D → Prop) → Prop) : List (List D) → (List (List D) → Prop) → Prop
  | [], K => K []
  | r :: l, K => ZqN f r fun r => Zrc f l fun l => K (r :: l)
def frcX : Nat → D → (D → Prop) → Prop
  | 0, d, K => K d
  | n + 1, d, K => match d with
    | .s t z rows sp => Zrc (frcX n) rows fun rows => Zrc (frcX n) sp fun sp => K (.s t z rows sp)
    | .v x => match x with
      | .int k i => frcI i fun i => K (.v (.int k i))
      | x => K (.v x)
    | d => K d
theorem Zfk {f : D → (D → Prop) → Prop} (hf : ∀ d K, f d K → K d) : ∀ (l : List D) (K : List D → Prop), ZqN f l K → K l
  | [], K, h => h
  | d :: l, K, h => Zfk hf l _ (hf d _ h)
theorem Zfr {f : D → (D → Prop) → Prop} (hf : ∀ d K, f d K → K d) : ∀ (l : List (List D)) (K : List (List D) → Prop), Zrc f l K → K l
  | [], K, h => h
  | r :: l, K, h => Zfr hf l _ (Zfk hf r _ h)
theorem Zdw : ∀ (n : Nat) (d : D) (K : D → Prop), frcX n d K → K d
  | 0, d, K, h => h
  | n + 1, d, K, h => by
    unfold frcX at h; split at h
    · exact Zfr (Zdw n) _ _ (Zfr (Zdw n) _ _ h)
    · split at h
      · exact Zqd h
      · exact h
    · exact h
def frcV (d : DV) (K : DV → Prop) : Prop := match d with
  | .c d => frcX 3 d fun d => K (.c d)
  | .agg cs => ZqN (frcX 3) cs fun cs => K (.agg cs)
  | .tup [.c d, e] => frcX 3 d fun d => K (.tup [.c d, e])
  | d => K d
theorem Zpv {d : DV} {K : DV → Prop} (h : frcV d K) : K d := by
  unfold frcV at h; split at h
  · exact Zdw 3 _ _ h
  · exact Zfk (Zdw 3) _ _ h
  · exact Zdw 3 _ _ h
  · exact h
def sF (s : Spec) : Spec := fun ds Q => s ds fun r => frcV r Q
theorem oF {P : Program} {f : FuncId} {s : Spec} (h : Zad P f s) : Zad P f (sF s) := fun ds Q hq => by
  obtain ⟨hg, r, hc, hp, hf, hq⟩ := h ds _ hq
  exact ⟨hg, r, hc, hp, hf, Zpv hq⟩
def ZeU : Inl := ZkG Tryz.prog [34] (sF sCop)
theorem Zb3 : Zbt Tryz.prog 58 ZeU := Zdp (oF ZvZ)
def spC : List (FuncId × Spec) := [(55, ZsQ), (56, sUp), (146, sUnd), (68, Zce), (122, sRM), (123, sWMy), (145, sB idm), (164, Zfq), (121, ZrG), (136, sB lab)]
theorem ZbQ : SpecsOK Tryz.prog spC := .cons (ZwK) (.cons (oUp2) (.cons (Zuy) (.cons (Zg0) (.cons (oQM) (.cons (oWPy) (.cons (oRId) (.cons (ZjR) (.cons (Zuw) (.cons (ZtS) (.nil))))))))))
def jRT : Inl := inlM Tryz.prog spC [] [] Tryz.f165
theorem Zvd : Zbt Tryz.prog 165 jRT := Zbl ZbQ .nil (.nil) mixed Tryz.func165 rfl (Zaq Tryz.func165 (by kernel_rfl) rfl)
def Zvj : Inl := inlM Tryz.prog spC [] [(165, jRT)] Tryz.f176
theorem Zq1 : Zbt Tryz.prog 176 Zvj := Zbl ZbQ .nil (.cons Zvd (.nil)) mixed Tryz.func176 rfl (Zaq Tryz.func176 (by kernel_rfl) rfl)
def jWR : Inl := inlM Tryz.prog spC [] [] Tryz.f190
theorem Zuu : Zbt Tryz.prog 190 jWR := Zbl ZbQ .nil (.nil) mixed Tryz.func190 rfl (Zaq Tryz.func190 (by kernel_rfl) rfl)
def jFW : Inl := inlM Tryz.prog spC [] [] Tryz.f189
theorem Zue : Zbt Tryz.prog 189 jFW := Zbl ZbQ .nil (.nil) mixed Tryz.func189 rfl (Zaq Tryz.func189 (by kernel_rfl) rfl)
def jPl : Inl := inlM Tryz.prog spC [] [] Tryz.f141
theorem ZuD : Zbt Tryz.prog 141 jPl := Zbl ZbQ .nil (.nil) mixed Tryz.func141 rfl (Zaq Tryz.func141 (by kernel_rfl) rfl)
def jWW : Inl := inlM Tryz.prog spC [] [(141, jPl)] Tryz.f87
theorem ZtK : Zbt Tryz.prog 87 jWW := Zbl ZbQ .nil (.cons ZuD (.nil)) mixed Tryz.func87 rfl (Zaq Tryz.func87 (by kernel_rfl) rfl)
def jWA : Inl := inlM Tryz.prog spC [] [] Tryz.f171
theorem ZuW : Zbt Tryz.prog 171 jWA := Zbl ZbQ .nil (.nil) mixed Tryz.func171 rfl (Zaq Tryz.func171 (by kernel_rfl) rfl)
def jAdd : Inl := inlM Tryz.prog spC [] [] Tryz.f85
theorem Ztf : Zbt Tryz.prog 85 jAdd := Zbl ZbQ .nil (.nil) mixed Tryz.func85 rfl (Zaq Tryz.func85 (by kernel_rfl) rfl)
def Zj0 : Inl := inlM Tryz.prog spC [] [] Tryz.f83
theorem ZeV : Zbt Tryz.prog 83 Zj0 := Zbl ZbQ .nil (.nil) mixed Tryz.func83 rfl (Zaq Tryz.func83 (by kernel_rfl) rfl)
def ZpU : Inl := inlM Tryz.prog spC [] [(83, Zj0)] Tryz.f167
theorem Zjj : Zbt Tryz.prog 167 ZpU := Zbl ZbQ .nil (.cons ZeV (.nil)) mixed Tryz.func167 rfl (Zaq Tryz.func167 (by kernel_rfl) rfl)
def ZrT : Inl := inlM Tryz.prog spC [] [(167, ZpU), (58, ZeU), (57, iRtl), (176, Zvj), (190, jWR), (189, jFW)] Tryz.f169
theorem ZoB : Zbt Tryz.prog 169 ZrT := Zbl ZbQ .nil (.cons Zjj (.cons Zb3 (.cons Zlt (.cons Zq1 (.cons Zuu (.cons Zue (.nil))))))) mixed Tryz.func169 rfl (Zaq Tryz.func169 (by kernel_rfl) rfl)
def Zr7 : Inl := inlM Tryz.prog spC [] [(83, Zj0), (58, ZeU), (57, iRtl), (87, jWW)] Tryz.f39
theorem Zpe : Zbt Tryz.prog 39 Zr7 := Zbl ZbQ .nil (.cons ZeV (.cons Zb3 (.cons Zlt (.cons ZtK (.nil))))) mixed Tryz.func39 rfl (Zaq Tryz.func39 (by kernel_rfl) rfl)
def Zuq : Inl := inlM Tryz.prog spC [] [(83, Zj0), (58, ZeU), (85, jAdd)] Tryz.f34
theorem ZrC : Zbt Tryz.prog 34 Zuq := Zbl ZbQ .nil (.cons ZeV (.cons Zb3 (.cons Ztf (.nil)))) mixed Tryz.func34 rfl (Zaq Tryz.func34 (by kernel_rfl) rfl)
def jRun : Inl := inlM Tryz.prog spC [] [(83, Zj0), (167, ZpU), (169, ZrT), (39, Zr7), (34, Zuq), (58, ZeU), (171, jWA)] Tryz.f128
theorem Zim : Zbt Tryz.prog 128 jRun := Zbl ZbQ .nil (.cons ZeV (.cons Zjj (.cons ZoB (.cons Zpe (.cons ZrC (.cons Zb3 (.cons ZuW (.nil)))))))) mixed Tryz.func128 rfl (Zaq Tryz.func128 (by kernel_rfl) rfl)
end

section
open Go Go.Proofs
def Zqq (s : SesD) (a : Int) : Int := bif decide (a = 0) then s.r0 else bif decide (a = 1) then s.r1 else bif decide (a = 2) then s.r2 else s.r3
end

section
open Go Go.Proofs
def ZuV (h : Mh) (a b k v : Int) : Mh := { h with tr := bif decide ((h.tr.length : Int) < 512) then h.tr ++ [[vN a, vN b, vN k, vN v]] else h.tr }
theorem Zxo (s : SesD) : Zqq s 0 = s.r0 := rfl
theorem Zxq (s : SesD) : Zqq s 1 = s.r1 := rfl
theorem Zxp (s : SesD) : Zqq s 2 = s.r2 := rfl
theorem Zxn (s : SesD) : Zqq s 3 = s.r3 := rfl
def ixI (i : Int) (ss : List SesD) : Bool := decide (0 ≤ i) && decide (i < @Nat.cast Int _ (List.length (List.map (sesL 1) ss)))
def foA (i : Int) (ss : List SesD) : Prop := foAt (addN 0 (Int.toNat i)) (Int.toNat i) (List.length (List.map (sesL 1) ss))
def foB (i : Int) (ss : List SesD) : Prop := foAt (Int.toNat i) (Int.toNat i) (List.length (List.map (sesL 1) ss))
def rmT (h : Mh) : Bool := decide (List.length h.tr ≤ List.length h.tr) && (decide ((List.length h.tr + 1) * 32 ≤ 140737488355328) && decide (List.length h.tr + 1 ≤ 9223372036854775807))
def wO (R : List (List D)) : Prop := whole (List.length R) R
def stI (i : Int) (ss : List SesD) (r : List D) : List (List D) := List.set (List.map (sesL 1) ss) (Int.toNat i) r
def wLs (ss : List SesD) (R : List (List D)) : Prop := whole (List.length (List.map (sesL 1) ss)) R
theorem ZbF {s : SesD} (h : ZaO s = true) : okZ 4 s.pg = true ∧ okZ 3 s.rd = true ∧ okZ 3 s.wt = true := by
  unfold ZaO at h; simpa [Bool.and_eq_true] using h
end

section
open Go Go.Proofs
theorem ZvO : Goes Tryz.prog 55 := Zaq Tryz.func55 (by kernel_rfl) rfl
theorem Zvo : Goes Tryz.prog 58 := Zaq Tryz.func58 (by kernel_rfl) rfl
theorem ZqA {t : Bool} {h : Mh} {ss : List SesD} (i : Int) (s : SesD) (hl : t = true → smM h ss = true ∧ ss.length ≤ 4) : Zbt Tryz.prog 58 (iCpF t h ss i s) :=
  Ziw (ZoD _ _) (oIf fun ht => oAtD Zvo (Zvl h ss (hl ht).2 (hl ht).1) (Zmj (hl ht).1) rfl)
end

section
open Go Go.Proofs
def bB : SesD := ⟨5, 1, 1, [[vN 2, vN 0, vN 0, vN 1], [vN 3, vN 0, vN 1, vN 0]], 0, 0, 0, 0, 0, 0, [], [], 0, 0, 0, 0, 0⟩
def bA0 : SesD := ⟨3, 0, 3, [[vN 2, vN 0, vN 0, vN 0], [vN 1, vN 0, vN 0, vN 0], [vN 3, vN 0, vN 0, vN 0]], 0, 0, 0, 0, 0, 0, [], [], 0, 0, 0, 0, 0⟩
def bH0 : Mh := ⟨[[vN 5, vN 0, vN 0], [vN 6, vN 0, vN 0]], [[vN 7, vN 0, vN 0]], [], [[vN 9, vN 0, vN 0]], 0, 0, 0, 0, 9, []⟩
def bA1 : SesD := ⟨3, 0, 3, [[vN 2, vN 0, vN 0, vN 0], [vN 1, vN 0, vN 0, vN 0], [vN 3, vN 0, vN 0, vN 0]], 0, 1, 5, 0, 0, 0, [[vN 0, vN 0, vN 0]], [], 0, 0, 0, 0, 0⟩
def bH1 : Mh := ⟨[[vN 5, vN 0, vN 0], [vN 6, vN 0, vN 0]], [[vN 7, vN 0, vN 0]], [], [[vN 9, vN 0, vN 0]], 0, 0, 0, 0, 9, [[vN 3, vN 0, vN 0, vN 5]]⟩
def bA2 : SesD := ⟨3, 0, 3, [[vN 2, vN 0, vN 0, vN 0], [vN 1, vN 0, vN 0, vN 0], [vN 3, vN 0, vN 0, vN 0]], 0, 2, 10, 0, 0, 0, [[vN 0, vN 0, vN 0]], [], 0, 0, 0, 0, 0⟩
def bH2 : Mh := ⟨[[vN 5, vN 0, vN 0], [vN 6, vN 0, vN 0]], [[vN 7, vN 0, vN 0]], [], [[vN 9, vN 0, vN 0]], 0, 0, 0, 0, 9, [[vN 3, vN 0, vN 0, vN 5]]⟩
def bA3 : SesD := ⟨3, 0, 3, [[vN 2, vN 0, vN 0, vN 0], [vN 1, vN 0, vN 0, vN 0], [vN 3, vN 0, vN 0, vN 0]], 0, 3, 10, 0, 0, 0, [[vN 0, vN 0, vN 0]], [[vN 0, vN 0, vN 10]], 0, 0, 0, 0, 0⟩
def bH3 : Mh := ⟨[[vN 5, vN 0, vN 0], [vN 6, vN 0, vN 0]], [[vN 7, vN 0, vN 0]], [], [[vN 9, vN 0, vN 0]], 0, 0, 0, 0, 9, [[vN 3, vN 0, vN 0, vN 5], [vN 3, vN 0, vN 1, vN 10]]⟩
def bA4 : SesD := ⟨3, 0, 3, [[vN 2, vN 0, vN 0, vN 0], [vN 1, vN 0, vN 0, vN 0], [vN 3, vN 0, vN 0, vN 0]], 1, 3, 10, 0, 0, 0, [[vN 0, vN 0, vN 0]], [[vN 0, vN 0, vN 10]], 0, 0, 0, 0, 0⟩
def bH4 : Mh := ⟨[[vN 5, vN 0, vN 0], [vN 6, vN 0, vN 0]], [[vN 7, vN 0, vN 0]], [], [[vN 9, vN 0, vN 0]], 0, 0, 0, 0, 9, [[vN 3, vN 0, vN 0, vN 5], [vN 3, vN 0, vN 1, vN 10]]⟩
theorem eSt1 (K : DV → Prop) : (askH Tryz.prog (hkM spC [] [(58, ZeU), (128, jRun)]) Tryz.f79 [.agg [D.s 0 3 [[D.v (Value.int IntKind.i64 5), D.v (Value.int IntKind.i64 0), D.v (Value.int IntKind.i64 0)], [D.v (Value.int IntKind.i64 6), D.v (Value.int IntKind.i64 0), D.v (Value.int IntKind.i64 0)]] [], D.s 0 3 [[D.v (Value.int IntKind.i64 7), D.v (Value.int IntKind.i64 0), D.v (Value.int IntKind.i64 0)]] [], D.s 0 3 [] [], D.s 0 3 [[D.v (Value.int IntKind.i64 9), D.v (Value.int IntKind.i64 0), D.v (Value.int IntKind.i64 0)]] [], D.v (Value.int IntKind.i64 0), D.v (Value.int IntKind.i64 0), D.v (Value.int IntKind.i64 0), D.v (Value.int IntKind.i64 0), D.v (Value.int IntKind.i64 9), D.s 0 17 [[D.v (Value.int IntKind.i64 3), D.v (Value.int IntKind.i64 0), D.v (Value.int IntKind.i64 3), D.s 0 4 [[D.v (Value.int IntKind.i64 2), D.v (Value.int IntKind.i64 0), D.v (Value.int IntKind.i64 0), D.v (Value.int IntKind.i64 0)], [D.v (Value.int IntKind.i64 1), D.v (Value.int IntKind.i64 0), D.v (Value.int IntKind.i64 0), D.v (Value.int IntKind.i64 0)], [D.v (Value.int IntKind.i64 3), D.v (Value.int IntKind.i64 0), D.v (Value.int IntKind.i64 0), D.v (Value.int IntKind.i64 0)]] [], D.v (Value.int IntKind.i64 0), D.v (Value.int IntKind.i64 0), D.v (Value.int IntKind.i64 0), D.v (Value.int IntKind.i64 0), D.v (Value.int IntKind.i64 0), D.v (Value.int IntKind.i64 0), D.s 0 3 [] [], D.s 0 3 [] [], D.v (Value.int IntKind.i64 0), D.v (Value.int IntKind.i64 0), D.v (Value.int IntKind.i64 0), D.v (Value.int IntKind.i64 0), D.v (Value.int IntKind.i64 0)], [D.v (Value.int IntKind.i64 5), D.v (Value.int IntKind.i64 1), D.v (Value.int IntKind.i64 1), D.s 0 4 [[D.v (Value.int IntKind.i64 2), D.v (Value.int IntKind.i64 0), D.v (Value.int IntKind.i64 0), D.v (Value.int IntKind.i64 1)], [D.v (Value.int IntKind.i64 3), D.v (Value.int IntKind.i64 0), D.v (Value.int IntKind.i64 1), D.v (Value.int IntKind.i64 0)]] [], D.v (Value.int IntKind.i64 0), D.v (Value.int IntKind.i64 0), D.v (Value.int IntKind.i64 0), D.v (Value.int IntKind.i64 0), D.v (Value.int IntKind.i64 0), D.v (Value.int IntKind.i64 0), D.s 0 3 [] [], D.s 0 3 [] [], D.v (Value.int IntKind.i64 0), D.v (Value.int IntKind.i64 0), D.v (Value.int IntKind.i64 0), D.v (Value.int IntKind.i64 0), D.v (Value.int IntKind.i64 0)]] [], D.s 0 4 [] []], I 0] K) = (K (DV.tup [DV.agg (ZfQ (1) ⟨[[vN (5), vN (0), vN (0)], [vN (6), vN (0), vN (0)]], [[vN (7), vN (0), vN (0)]], [], [[vN (9), vN (0), vN (0)]], (0), (0), (0), (0), (9), [[vN (3), vN (0), vN (0), vN (5)]]⟩ [(sesL (1) ⟨(3), (0), (3), [[vN (2), vN (0), vN (0), vN (0)], [vN (1), vN (0), vN (0), vN (0)], [vN (3), vN (0), vN (0), vN (0)]], (0), (1), (5), (0), (0), (0), [[vN (0), vN (0), vN (0)]], [], (0), (0), (0), (0), (0)⟩), (sesL (1) ⟨(5), (1), (1), [[vN (2), vN (0), vN (0), vN (1)], [vN (3), vN (0), vN (1), vN (0)]], (0), (0), (0), (0), (0), (0), [], [], (0), (0), (0), (0), (0)⟩)]), I (0)])) := by kernel_rfl
theorem cSt1 : CT Tryz.prog 79 [.agg (macL 0 bH0 [bA0, bB]), I 0] (macR bH1 [bA1, bB] 0) := by
  have e : macL 0 bH0 [bA0, bB] = [D.s 0 3 [[D.v (Value.int IntKind.i64 5), D.v (Value.int IntKind.i64 0), D.v (Value.int IntKind.i64 0)], [D.v (Value.int IntKind.i64 6), D.v (Value.int IntKind.i64 0), D.v (Value.int IntKind.i64 0)]] [], D.s 0 3 [[D.v (Value.int IntKind.i64 7), D.v (Value.int IntKind.i64 0), D.v (Value.int IntKind.i64 0)]] [], D.s 0 3 [] [], D.s 0 3 [[D.v (Value.int IntKind.i64 9), D.v (Value.int IntKind.i64 0), D.v (Value.int IntKind.i64 0)]] [], D.v (Value.int IntKind.i64 0), D.v (Value.int IntKind.i64 0), D.v (Value.int IntKind.i64 0), D.v (Value.int IntKind.i64 0), D.v (Value.int IntKind.i64 9), D.s 0 17 [[D.v (Value.int IntKind.i64 3), D.v (Value.int IntKind.i64 0), D.v (Value.int IntKind.i64 3), D.s 0 4 [[D.v (Value.int IntKind.i64 2), D.v (Value.int IntKind.i64 0), D.v (Value.int IntKind.i64 0), D.v (Value.int IntKind.i64 0)], [D.v (Value.int IntKind.i64 1), D.v (Value.int IntKind.i64 0), D.v (Value.int IntKind.i64 0), D.v (Value.int IntKind.i64 0)], [D.v (Value.int IntKind.i64 3), D.v (Value.int IntKind.i64 0), D.v (Value.int IntKind.i64 0), D.v (Value.int IntKind.i64 0)]] [], D.v (Value.int IntKind.i64 0), D.v (Value.int IntKind.i64 0), D.v (Value.int IntKind.i64 0), D.v (Value.int IntKind.i64 0), D.v (Value.int IntKind.i64 0), D.v (Value.int IntKind.i64 0), D.s 0 3 [] [], D.s 0 3 [] [], D.v (Value.int IntKind.i64 0), D.v (Value.int IntKind.i64 0), D.v (Value.int IntKind.i64 0), D.v (Value.int IntKind.i64 0), D.v (Value.int IntKind.i64 0)], [D.v (Value.int IntKind.i64 5), D.v (Value.int IntKind.i64 1), D.v (Value.int IntKind.i64 1), D.s 0 4 [[D.v (Value.int IntKind.i64 2), D.v (Value.int IntKind.i64 0), D.v (Value.int IntKind.i64 0), D.v (Value.int IntKind.i64 1)], [D.v (Value.int IntKind.i64 3), D.v (Value.int IntKind.i64 0), D.v (Value.int IntKind.i64 1), D.v (Value.int IntKind.i64 0)]] [], D.v (Value.int IntKind.i64 0), D.v (Value.int IntKind.i64 0), D.v (Value.int IntKind.i64 0), D.v (Value.int IntKind.i64 0), D.v (Value.int IntKind.i64 0), D.v (Value.int IntKind.i64 0), D.s 0 3 [] [], D.s 0 3 [] [], D.v (Value.int IntKind.i64 0), D.v (Value.int IntKind.i64 0), D.v (Value.int IntKind.i64 0), D.v (Value.int IntKind.i64 0), D.v (Value.int IntKind.i64 0)]] [], D.s 0 4 [] []] := rfl
  rw [e]
  refine ct_m ZbQ .nil (.cons Zb3 (.cons Zim .nil)) mixed Tryz.func79 rfl rfl rfl ?_
  rw [eSt1]
  exact ⟨rfl⟩
theorem eSt2 (K : DV → Prop) : (askH Tryz.prog (hkM spC [] [(58, ZeU), (128, jRun)]) Tryz.f79 [.agg [D.s 0 3 [[D.v (Value.int IntKind.i64 5), D.v (Value.int IntKind.i64 0), D.v (Value.int IntKind.i64 0)], [D.v (Value.int IntKind.i64 6), D.v (Value.int IntKind.i64 0), D.v (Value.int IntKind.i64 0)]] [], D.s 0 3 [[D.v (Value.int IntKind.i64 7), D.v (Value.int IntKind.i64 0), D.v (Value.int IntKind.i64 0)]] [], D.s 0 3 [] [], D.s 0 3 [[D.v (Value.int IntKind.i64 9), D.v (Value.int IntKind.i64 0), D.v (Value.int IntKind.i64 0)]] [], D.v (Value.int IntKind.i64 0), D.v (Value.int IntKind.i64 0), D.v (Value.int IntKind.i64 0), D.v (Value.int IntKind.i64 0), D.v (Value.int IntKind.i64 9), D.s 0 17 [[D.v (Value.int IntKind.i64 3), D.v (Value.int IntKind.i64 0), D.v (Value.int IntKind.i64 3), D.s 0 4 [[D.v (Value.int IntKind.i64 2), D.v (Value.int IntKind.i64 0), D.v (Value.int IntKind.i64 0), D.v (Value.int IntKind.i64 0)], [D.v (Value.int IntKind.i64 1), D.v (Value.int IntKind.i64 0), D.v (Value.int IntKind.i64 0), D.v (Value.int IntKind.i64 0)], [D.v (Value.int IntKind.i64 3), D.v (Value.int IntKind.i64 0), D.v (Value.int IntKind.i64 0), D.v (Value.int IntKind.i64 0)]] [], D.v (Value.int IntKind.i64 0), D.v (Value.int IntKind.i64 1), D.v (Value.int IntKind.i64 5), D.v (Value.int IntKind.i64 0), D.v (Value.int IntKind.i64 0), D.v (Value.int IntKind.i64 0), D.s 0 3 [[D.v (Value.int IntKind.i64 0), D.v (Value.int IntKind.i64 0), D.v (Value.int IntKind.i64 0)]] [], D.s 0 3 [] [], D.v (Value.int IntKind.i64 0), D.v (Value.int IntKind.i64 0), D.v (Value.int IntKind.i64 0), D.v (Value.int IntKind.i64 0), D.v (Value.int IntKind.i64 0)], [D.v (Value.int IntKind.i64 5), D.v (Value.int IntKind.i64 1), D.v (Value.int IntKind.i64 1), D.s 0 4 [[D.v (Value.int IntKind.i64 2), D.v (Value.int IntKind.i64 0), D.v (Value.int IntKind.i64 0), D.v (Value.int IntKind.i64 1)], [D.v (Value.int IntKind.i64 3), D.v (Value.int IntKind.i64 0), D.v (Value.int IntKind.i64 1), D.v (Value.int IntKind.i64 0)]] [], D.v (Value.int IntKind.i64 0), D.v (Value.int IntKind.i64 0), D.v (Value.int IntKind.i64 0), D.v (Value.int IntKind.i64 0), D.v (Value.int IntKind.i64 0), D.v (Value.int IntKind.i64 0), D.s 0 3 [] [], D.s 0 3 [] [], D.v (Value.int IntKind.i64 0), D.v (Value.int IntKind.i64 0), D.v (Value.int IntKind.i64 0), D.v (Value.int IntKind.i64 0), D.v (Value.int IntKind.i64 0)]] [], D.s 0 4 [[D.v (Value.int IntKind.i64 3), D.v (Value.int IntKind.i64 0), D.v (Value.int IntKind.i64 0), D.v (Value.int IntKind.i64 5)]] []], I 0] K) = (K (DV.tup [DV.agg (ZfQ (1) ⟨[[vN (5), vN (0), vN (0)], [vN (6), vN (0), vN (0)]], [[vN (7), vN (0), vN (0)]], [], [[vN (9), vN (0), vN (0)]], (0), (0), (0), (0), (9), [[vN (3), vN (0), vN (0), vN (5)]]⟩ [(sesL (1) ⟨(3), (0), (3), [[vN (2), vN (0), vN (0), vN (0)], [vN (1), vN (0), vN (0), vN (0)], [vN (3), vN (0), vN (0), vN (0)]], (0), (2), (10), (0), (0), (0), [[vN (0), vN (0), vN (0)]], [], (0), (0), (0), (0), (0)⟩), (sesL (1) ⟨(5), (1), (1), [[vN (2), vN (0), vN (0), vN (1)], [vN (3), vN (0), vN (1), vN (0)]], (0), (0), (0), (0), (0), (0), [], [], (0), (0), (0), (0), (0)⟩)]), I (0)])) := by kernel_rfl
theorem cSt2 : CT Tryz.prog 79 [.agg (macL 0 bH1 [bA1, bB]), I 0] (macR bH2 [bA2, bB] 0) := by
  have e : macL 0 bH1 [bA1, bB] = [D.s 0 3 [[D.v (Value.int IntKind.i64 5), D.v (Value.int IntKind.i64 0), D.v (Value.int IntKind.i64 0)], [D.v (Value.int IntKind.i64 6), D.v (Value.int IntKind.i64 0), D.v (Value.int IntKind.i64 0)]] [], D.s 0 3 [[D.v (Value.int IntKind.i64 7), D.v (Value.int IntKind.i64 0), D.v (Value.int IntKind.i64 0)]] [], D.s 0 3 [] [], D.s 0 3 [[D.v (Value.int IntKind.i64 9), D.v (Value.int IntKind.i64 0), D.v (Value.int IntKind.i64 0)]] [], D.v (Value.int IntKind.i64 0), D.v (Value.int IntKind.i64 0), D.v (Value.int IntKind.i64 0), D.v (Value.int IntKind.i64 0), D.v (Value.int IntKind.i64 9), D.s 0 17 [[D.v (Value.int IntKind.i64 3), D.v (Value.int IntKind.i64 0), D.v (Value.int IntKind.i64 3), D.s 0 4 [[D.v (Value.int IntKind.i64 2), D.v (Value.int IntKind.i64 0), D.v (Value.int IntKind.i64 0), D.v (Value.int IntKind.i64 0)], [D.v (Value.int IntKind.i64 1), D.v (Value.int IntKind.i64 0), D.v (Value.int IntKind.i64 0), D.v (Value.int IntKind.i64 0)], [D.v (Value.int IntKind.i64 3), D.v (Value.int IntKind.i64 0), D.v (Value.int IntKind.i64 0), D.v (Value.int IntKind.i64 0)]] [], D.v (Value.int IntKind.i64 0), D.v (Value.int IntKind.i64 1), D.v (Value.int IntKind.i64 5), D.v (Value.int IntKind.i64 0), D.v (Value.int IntKind.i64 0), D.v (Value.int IntKind.i64 0), D.s 0 3 [[D.v (Value.int IntKind.i64 0), D.v (Value.int IntKind.i64 0), D.v (Value.int IntKind.i64 0)]] [], D.s 0 3 [] [], D.v (Value.int IntKind.i64 0), D.v (Value.int IntKind.i64 0), D.v (Value.int IntKind.i64 0), D.v (Value.int IntKind.i64 0), D.v (Value.int IntKind.i64 0)], [D.v (Value.int IntKind.i64 5), D.v (Value.int IntKind.i64 1), D.v (Value.int IntKind.i64 1), D.s 0 4 [[D.v (Value.int IntKind.i64 2), D.v (Value.int IntKind.i64 0), D.v (Value.int IntKind.i64 0), D.v (Value.int IntKind.i64 1)], [D.v (Value.int IntKind.i64 3), D.v (Value.int IntKind.i64 0), D.v (Value.int IntKind.i64 1), D.v (Value.int IntKind.i64 0)]] [], D.v (Value.int IntKind.i64 0), D.v (Value.int IntKind.i64 0), D.v (Value.int IntKind.i64 0), D.v (Value.int IntKind.i64 0), D.v (Value.int IntKind.i64 0), D.v (Value.int IntKind.i64 0), D.s 0 3 [] [], D.s 0 3 [] [], D.v (Value.int IntKind.i64 0), D.v (Value.int IntKind.i64 0), D.v (Value.int IntKind.i64 0), D.v (Value.int IntKind.i64 0), D.v (Value.int IntKind.i64 0)]] [], D.s 0 4 [[D.v (Value.int IntKind.i64 3), D.v (Value.int IntKind.i64 0), D.v (Value.int IntKind.i64 0), D.v (Value.int IntKind.i64 5)]] []] := rfl
  rw [e]
  refine ct_m ZbQ .nil (.cons Zb3 (.cons Zim .nil)) mixed Tryz.func79 rfl rfl rfl ?_
  rw [eSt2]
  exact ⟨rfl⟩
theorem eSt3 (K : DV → Prop) : (askH Tryz.prog (hkM spC [] [(58, ZeU), (128, jRun)]) Tryz.f79 [.agg [D.s 0 3 [[D.v (Value.int IntKind.i64 5), D.v (Value.int IntKind.i64 0), D.v (Value.int IntKind.i64 0)], [D.v (Value.int IntKind.i64 6), D.v (Value.int IntKind.i64 0), D.v (Value.int IntKind.i64 0)]] [], D.s 0 3 [[D.v (Value.int IntKind.i64 7), D.v (Value.int IntKind.i64 0), D.v (Value.int IntKind.i64 0)]] [], D.s 0 3 [] [], D.s 0 3 [[D.v (Value.int IntKind.i64 9), D.v (Value.int IntKind.i64 0), D.v (Value.int IntKind.i64 0)]] [], D.v (Value.int IntKind.i64 0), D.v (Value.int IntKind.i64 0), D.v (Value.int IntKind.i64 0), D.v (Value.int IntKind.i64 0), D.v (Value.int IntKind.i64 9), D.s 0 17 [[D.v (Value.int IntKind.i64 3), D.v (Value.int IntKind.i64 0), D.v (Value.int IntKind.i64 3), D.s 0 4 [[D.v (Value.int IntKind.i64 2), D.v (Value.int IntKind.i64 0), D.v (Value.int IntKind.i64 0), D.v (Value.int IntKind.i64 0)], [D.v (Value.int IntKind.i64 1), D.v (Value.int IntKind.i64 0), D.v (Value.int IntKind.i64 0), D.v (Value.int IntKind.i64 0)], [D.v (Value.int IntKind.i64 3), D.v (Value.int IntKind.i64 0), D.v (Value.int IntKind.i64 0), D.v (Value.int IntKind.i64 0)]] [], D.v (Value.int IntKind.i64 0), D.v (Value.int IntKind.i64 2), D.v (Value.int IntKind.i64 10), D.v (Value.int IntKind.i64 0), D.v (Value.int IntKind.i64 0), D.v (Value.int IntKind.i64 0), D.s 0 3 [[D.v (Value.int IntKind.i64 0), D.v (Value.int IntKind.i64 0), D.v (Value.int IntKind.i64 0)]] [], D.s 0 3 [] [], D.v (Value.int IntKind.i64 0), D.v (Value.int IntKind.i64 0), D.v (Value.int IntKind.i64 0), D.v (Value.int IntKind.i64 0), D.v (Value.int IntKind.i64 0)], [D.v (Value.int IntKind.i64 5), D.v (Value.int IntKind.i64 1), D.v (Value.int IntKind.i64 1), D.s 0 4 [[D.v (Value.int IntKind.i64 2), D.v (Value.int IntKind.i64 0), D.v (Value.int IntKind.i64 0), D.v (Value.int IntKind.i64 1)], [D.v (Value.int IntKind.i64 3), D.v (Value.int IntKind.i64 0), D.v (Value.int IntKind.i64 1), D.v (Value.int IntKind.i64 0)]] [], D.v (Value.int IntKind.i64 0), D.v (Value.int IntKind.i64 0), D.v (Value.int IntKind.i64 0), D.v (Value.int IntKind.i64 0), D.v (Value.int IntKind.i64 0), D.v (Value.int IntKind.i64 0), D.s 0 3 [] [], D.s 0 3 [] [], D.v (Value.int IntKind.i64 0), D.v (Value.int IntKind.i64 0), D.v (Value.int IntKind.i64 0), D.v (Value.int IntKind.i64 0), D.v (Value.int IntKind.i64 0)]] [], D.s 0 4 [[D.v (Value.int IntKind.i64 3), D.v (Value.int IntKind.i64 0), D.v (Value.int IntKind.i64 0), D.v (Value.int IntKind.i64 5)]] []], I 0] K) = (K (DV.tup [DV.agg (ZfQ (1) ⟨[[vN (5), vN (0), vN (0)], [vN (6), vN (0), vN (0)]], [[vN (7), vN (0), vN (0)]], [], [[vN (9), vN (0), vN (0)]], (0), (0), (0), (0), (9), [[vN (3), vN (0), vN (0), vN (5)], [vN (3), vN (0), vN (1), vN (10)]]⟩ [(sesL (1) ⟨(3), (0), (3), [[vN (2), vN (0), vN (0), vN (0)], [vN (1), vN (0), vN (0), vN (0)], [vN (3), vN (0), vN (0), vN (0)]], (0), (3), (10), (0), (0), (0), [[vN (0), vN (0), vN (0)]], [[vN (0), vN (0), vN (10)]], (0), (0), (0), (0), (0)⟩), (sesL (1) ⟨(5), (1), (1), [[vN (2), vN (0), vN (0), vN (1)], [vN (3), vN (0), vN (1), vN (0)]], (0), (0), (0), (0), (0), (0), [], [], (0), (0), (0), (0), (0)⟩)]), I (0)])) := by kernel_rfl
theorem cSt3 : CT Tryz.prog 79 [.agg (macL 0 bH2 [bA2, bB]), I 0] (macR bH3 [bA3, bB] 0) := by
  have e : macL 0 bH2 [bA2, bB] = [D.s 0 3 [[D.v (Value.int IntKind.i64 5), D.v (Value.int IntKind.i64 0), D.v (Value.int IntKind.i64 0)], [D.v (Value.int IntKind.i64 6), D.v (Value.int IntKind.i64 0), D.v (Value.int IntKind.i64 0)]] [], D.s 0 3 [[D.v (Value.int IntKind.i64 7), D.v (Value.int IntKind.i64 0), D.v (Value.int IntKind.i64 0)]] [], D.s 0 3 [] [], D.s 0 3 [[D.v (Value.int IntKind.i64 9), D.v (Value.int IntKind.i64 0), D.v (Value.int IntKind.i64 0)]] [], D.v (Value.int IntKind.i64 0), D.v (Value.int IntKind.i64 0), D.v (Value.int IntKind.i64 0), D.v (Value.int IntKind.i64 0), D.v (Value.int IntKind.i64 9), D.s 0 17 [[D.v (Value.int IntKind.i64 3), D.v (Value.int IntKind.i64 0), D.v (Value.int IntKind.i64 3), D.s 0 4 [[D.v (Value.int IntKind.i64 2), D.v (Value.int IntKind.i64 0), D.v (Value.int IntKind.i64 0), D.v (Value.int IntKind.i64 0)], [D.v (Value.int IntKind.i64 1), D.v (Value.int IntKind.i64 0), D.v (Value.int IntKind.i64 0), D.v (Value.int IntKind.i64 0)], [D.v (Value.int IntKind.i64 3), D.v (Value.int IntKind.i64 0), D.v (Value.int IntKind.i64 0), D.v (Value.int IntKind.i64 0)]] [], D.v (Value.int IntKind.i64 0), D.v (Value.int IntKind.i64 2), D.v (Value.int IntKind.i64 10), D.v (Value.int IntKind.i64 0), D.v (Value.int IntKind.i64 0), D.v (Value.int IntKind.i64 0), D.s 0 3 [[D.v (Value.int IntKind.i64 0), D.v (Value.int IntKind.i64 0), D.v (Value.int IntKind.i64 0)]] [], D.s 0 3 [] [], D.v (Value.int IntKind.i64 0), D.v (Value.int IntKind.i64 0), D.v (Value.int IntKind.i64 0), D.v (Value.int IntKind.i64 0), D.v (Value.int IntKind.i64 0)], [D.v (Value.int IntKind.i64 5), D.v (Value.int IntKind.i64 1), D.v (Value.int IntKind.i64 1), D.s 0 4 [[D.v (Value.int IntKind.i64 2), D.v (Value.int IntKind.i64 0), D.v (Value.int IntKind.i64 0), D.v (Value.int IntKind.i64 1)], [D.v (Value.int IntKind.i64 3), D.v (Value.int IntKind.i64 0), D.v (Value.int IntKind.i64 1), D.v (Value.int IntKind.i64 0)]] [], D.v (Value.int IntKind.i64 0), D.v (Value.int IntKind.i64 0), D.v (Value.int IntKind.i64 0), D.v (Value.int IntKind.i64 0), D.v (Value.int IntKind.i64 0), D.v (Value.int IntKind.i64 0), D.s 0 3 [] [], D.s 0 3 [] [], D.v (Value.int IntKind.i64 0), D.v (Value.int IntKind.i64 0), D.v (Value.int IntKind.i64 0), D.v (Value.int IntKind.i64 0), D.v (Value.int IntKind.i64 0)]] [], D.s 0 4 [[D.v (Value.int IntKind.i64 3), D.v (Value.int IntKind.i64 0), D.v (Value.int IntKind.i64 0), D.v (Value.int IntKind.i64 5)]] []] := rfl
  rw [e]
  refine ct_m ZbQ .nil (.cons Zb3 (.cons Zim .nil)) mixed Tryz.func79 rfl rfl rfl ?_
  rw [eSt3]
  exact ⟨rfl⟩
theorem eSt4 (K : DV → Prop) : (askH Tryz.prog (hkM spC [] [(58, ZeU), (128, jRun)]) Tryz.f79 [.agg [D.s 0 3 [[D.v (Value.int IntKind.i64 5), D.v (Value.int IntKind.i64 0), D.v (Value.int IntKind.i64 0)], [D.v (Value.int IntKind.i64 6), D.v (Value.int IntKind.i64 0), D.v (Value.int IntKind.i64 0)]] [], D.s 0 3 [[D.v (Value.int IntKind.i64 7), D.v (Value.int IntKind.i64 0), D.v (Value.int IntKind.i64 0)]] [], D.s 0 3 [] [], D.s 0 3 [[D.v (Value.int IntKind.i64 9), D.v (Value.int IntKind.i64 0), D.v (Value.int IntKind.i64 0)]] [], D.v (Value.int IntKind.i64 0), D.v (Value.int IntKind.i64 0), D.v (Value.int IntKind.i64 0), D.v (Value.int IntKind.i64 0), D.v (Value.int IntKind.i64 9), D.s 0 17 [[D.v (Value.int IntKind.i64 3), D.v (Value.int IntKind.i64 0), D.v (Value.int IntKind.i64 3), D.s 0 4 [[D.v (Value.int IntKind.i64 2), D.v (Value.int IntKind.i64 0), D.v (Value.int IntKind.i64 0), D.v (Value.int IntKind.i64 0)], [D.v (Value.int IntKind.i64 1), D.v (Value.int IntKind.i64 0), D.v (Value.int IntKind.i64 0), D.v (Value.int IntKind.i64 0)], [D.v (Value.int IntKind.i64 3), D.v (Value.int IntKind.i64 0), D.v (Value.int IntKind.i64 0), D.v (Value.int IntKind.i64 0)]] [], D.v (Value.int IntKind.i64 0), D.v (Value.int IntKind.i64 3), D.v (Value.int IntKind.i64 10), D.v (Value.int IntKind.i64 0), D.v (Value.int IntKind.i64 0), D.v (Value.int IntKind.i64 0), D.s 0 3 [[D.v (Value.int IntKind.i64 0), D.v (Value.int IntKind.i64 0), D.v (Value.int IntKind.i64 0)]] [], D.s 0 3 [[D.v (Value.int IntKind.i64 0), D.v (Value.int IntKind.i64 0), D.v (Value.int IntKind.i64 10)]] [], D.v (Value.int IntKind.i64 0), D.v (Value.int IntKind.i64 0), D.v (Value.int IntKind.i64 0), D.v (Value.int IntKind.i64 0), D.v (Value.int IntKind.i64 0)], [D.v (Value.int IntKind.i64 5), D.v (Value.int IntKind.i64 1), D.v (Value.int IntKind.i64 1), D.s 0 4 [[D.v (Value.int IntKind.i64 2), D.v (Value.int IntKind.i64 0), D.v (Value.int IntKind.i64 0), D.v (Value.int IntKind.i64 1)], [D.v (Value.int IntKind.i64 3), D.v (Value.int IntKind.i64 0), D.v (Value.int IntKind.i64 1), D.v (Value.int IntKind.i64 0)]] [], D.v (Value.int IntKind.i64 0), D.v (Value.int IntKind.i64 0), D.v (Value.int IntKind.i64 0), D.v (Value.int IntKind.i64 0), D.v (Value.int IntKind.i64 0), D.v (Value.int IntKind.i64 0), D.s 0 3 [] [], D.s 0 3 [] [], D.v (Value.int IntKind.i64 0), D.v (Value.int IntKind.i64 0), D.v (Value.int IntKind.i64 0), D.v (Value.int IntKind.i64 0), D.v (Value.int IntKind.i64 0)]] [], D.s 0 4 [[D.v (Value.int IntKind.i64 3), D.v (Value.int IntKind.i64 0), D.v (Value.int IntKind.i64 0), D.v (Value.int IntKind.i64 5)], [D.v (Value.int IntKind.i64 3), D.v (Value.int IntKind.i64 0), D.v (Value.int IntKind.i64 1), D.v (Value.int IntKind.i64 10)]] []], I 0] K) = (K (DV.tup [DV.agg (ZfQ (1) ⟨[[vN (5), vN (0), vN (0)], [vN (6), vN (0), vN (0)]], [[vN (7), vN (0), vN (0)]], [], [[vN (9), vN (0), vN (0)]], (0), (0), (0), (0), (9), [[vN (3), vN (0), vN (0), vN (5)], [vN (3), vN (0), vN (1), vN (10)]]⟩ [(sesL (1) ⟨(3), (0), (3), [[vN (2), vN (0), vN (0), vN (0)], [vN (1), vN (0), vN (0), vN (0)], [vN (3), vN (0), vN (0), vN (0)]], (1), (3), (10), (0), (0), (0), [[vN (0), vN (0), vN (0)]], [[vN (0), vN (0), vN (10)]], (0), (0), (0), (0), (0)⟩), (sesL (1) ⟨(5), (1), (1), [[vN (2), vN (0), vN (0), vN (1)], [vN (3), vN (0), vN (1), vN (0)]], (0), (0), (0), (0), (0), (0), [], [], (0), (0), (0), (0), (0)⟩)]), I (0)])) := by kernel_rfl
theorem cSt4 : CT Tryz.prog 79 [.agg (macL 0 bH3 [bA3, bB]), I 0] (macR bH4 [bA4, bB] 0) := by
  have e : macL 0 bH3 [bA3, bB] = [D.s 0 3 [[D.v (Value.int IntKind.i64 5), D.v (Value.int IntKind.i64 0), D.v (Value.int IntKind.i64 0)], [D.v (Value.int IntKind.i64 6), D.v (Value.int IntKind.i64 0), D.v (Value.int IntKind.i64 0)]] [], D.s 0 3 [[D.v (Value.int IntKind.i64 7), D.v (Value.int IntKind.i64 0), D.v (Value.int IntKind.i64 0)]] [], D.s 0 3 [] [], D.s 0 3 [[D.v (Value.int IntKind.i64 9), D.v (Value.int IntKind.i64 0), D.v (Value.int IntKind.i64 0)]] [], D.v (Value.int IntKind.i64 0), D.v (Value.int IntKind.i64 0), D.v (Value.int IntKind.i64 0), D.v (Value.int IntKind.i64 0), D.v (Value.int IntKind.i64 9), D.s 0 17 [[D.v (Value.int IntKind.i64 3), D.v (Value.int IntKind.i64 0), D.v (Value.int IntKind.i64 3), D.s 0 4 [[D.v (Value.int IntKind.i64 2), D.v (Value.int IntKind.i64 0), D.v (Value.int IntKind.i64 0), D.v (Value.int IntKind.i64 0)], [D.v (Value.int IntKind.i64 1), D.v (Value.int IntKind.i64 0), D.v (Value.int IntKind.i64 0), D.v (Value.int IntKind.i64 0)], [D.v (Value.int IntKind.i64 3), D.v (Value.int IntKind.i64 0), D.v (Value.int IntKind.i64 0), D.v (Value.int IntKind.i64 0)]] [], D.v (Value.int IntKind.i64 0), D.v (Value.int IntKind.i64 3), D.v (Value.int IntKind.i64 10), D.v (Value.int IntKind.i64 0), D.v (Value.int IntKind.i64 0), D.v (Value.int IntKind.i64 0), D.s 0 3 [[D.v (Value.int IntKind.i64 0), D.v (Value.int IntKind.i64 0), D.v (Value.int IntKind.i64 0)]] [], D.s 0 3 [[D.v (Value.int IntKind.i64 0), D.v (Value.int IntKind.i64 0), D.v (Value.int IntKind.i64 10)]] [], D.v (Value.int IntKind.i64 0), D.v (Value.int IntKind.i64 0), D.v (Value.int IntKind.i64 0), D.v (Value.int IntKind.i64 0), D.v (Value.int IntKind.i64 0)], [D.v (Value.int IntKind.i64 5), D.v (Value.int IntKind.i64 1), D.v (Value.int IntKind.i64 1), D.s 0 4 [[D.v (Value.int IntKind.i64 2), D.v (Value.int IntKind.i64 0), D.v (Value.int IntKind.i64 0), D.v (Value.int IntKind.i64 1)], [D.v (Value.int IntKind.i64 3), D.v (Value.int IntKind.i64 0), D.v (Value.int IntKind.i64 1), D.v (Value.int IntKind.i64 0)]] [], D.v (Value.int IntKind.i64 0), D.v (Value.int IntKind.i64 0), D.v (Value.int IntKind.i64 0), D.v (Value.int IntKind.i64 0), D.v (Value.int IntKind.i64 0), D.v (Value.int IntKind.i64 0), D.s 0 3 [] [], D.s 0 3 [] [], D.v (Value.int IntKind.i64 0), D.v (Value.int IntKind.i64 0), D.v (Value.int IntKind.i64 0), D.v (Value.int IntKind.i64 0), D.v (Value.int IntKind.i64 0)]] [], D.s 0 4 [[D.v (Value.int IntKind.i64 3), D.v (Value.int IntKind.i64 0), D.v (Value.int IntKind.i64 0), D.v (Value.int IntKind.i64 5)], [D.v (Value.int IntKind.i64 3), D.v (Value.int IntKind.i64 0), D.v (Value.int IntKind.i64 1), D.v (Value.int IntKind.i64 10)]] []] := rfl
  rw [e]
  refine ct_m ZbQ .nil (.cons Zb3 (.cons Zim .nil)) mixed Tryz.func79 rfl rfl rfl ?_
  rw [eSt4]
  exact ⟨rfl⟩
theorem Zrf : Zbt Tryz.prog 21 Zt8 := Zbl (.cons ZuL (.cons ZsL (.cons oRMm .nil))) .nil .nil mixed Tryz.func21 rfl (Zaq Tryz.func21 (by kernel_rfl) rfl)
theorem Zu0 (K : DV → Prop) : (askH Tryz.prog (hkM [] [] [(21, Zt8)]) Tryz.f78 [] K) = (K (DV.agg [D.s (1) (3) [[vN (5), vN (0), vN (0)], [vN (6), vN (0), vN (0)]] [], D.s (1) (3) [[vN (7), vN (0), vN (0)]] [], D.s (1) (3) [] [], D.s (1) (3) [[vN (9), vN (0), vN (0)]] [], vN (0), vN (0), vN (0), vN (0), vN (9), D.s (1) (17) [[vN (3), vN (0), vN (3), D.s (1) (4) [[vN (2), vN (0), vN (0), vN (0)], [vN (1), vN (0), vN (0), vN (0)], [vN (3), vN (0), vN (0), vN (0)]] [], vN (0), vN (0), vN (0), vN (0), vN (0), vN (0), nilV, nilV, vN (0), vN (0), vN (0), vN (0), vN (0)], [vN (5), vN (1), vN (1), D.s (1) (4) [[vN (2), vN (0), vN (0), vN (1)], [vN (3), vN (0), vN (1), vN (0)]] [], vN (0), vN (0), vN (0), vN (0), vN (0), vN (0), nilV, nilV, vN (0), vN (0), vN (0), vN (0), vN (0)]] [], nilV])) := by kernel_rfl
theorem ZtI : CT Tryz.prog 78 [] (.agg (macL 1 bH0 [bA0, bB])) := by
  refine ZsU .nil .nil (.cons Zrf .nil) mixed Tryz.func78 rfl rfl rfl ?_
  rw [Zu0]
  refine ⟨.aggO ?_⟩
  repeat (first | exact .nil | exact OL.refl _ | exact OL.nil _ | refine .cons ?_ ?_ | refine OL.rows ?_)
end

section
open Go Go.Proofs
def sStp : Spec := fun ds Q => match ds with
  | [d, _] => macA d fun _ ss => match ss with
    | [a, _] => bif a.st == 0 then (bif a.pc == 0 then sAtD [.agg (macL 0 bH0 [bA0, bB]), I 0] (macR bH1 [bA1, bB] 0) ds Q else bif a.pc == 1 then sAtD [.agg (macL 0 bH1 [bA1, bB]), I 0] (macR bH2 [bA2, bB] 0) ds Q else bif a.pc == 2 then sAtD [.agg (macL 0 bH2 [bA2, bB]), I 0] (macR bH3 [bA3, bB] 0) ds Q else sAtD [.agg (macL 0 bH3 [bA3, bB]), I 0] (macR bH4 [bA4, bB] 0) ds Q) else False
    | _ => False
  | _ => False
theorem gStp : Goes Tryz.prog 79 := Zaq Tryz.func79 (by kernel_rfl) rfl
theorem oStp : Zad Tryz.prog 79 sStp := fun ds Q h => by
  unfold sStp at h; split at h
  · obtain ⟨m, ss, h, _⟩ := ZbL h
    split at h
    · rename_i a _ _
      cases h1 : a.st == 0
      · rw [h1] at h; exact h.elim
      · rw [h1] at h
        cases h2 : a.pc == 0
        · cases h3 : a.pc == 1
          · cases h4 : a.pc == 2
            · rw [h2, h3, h4] at h; exact oAtD gStp cSt4 rfl rfl _ Q h
            · rw [h2, h3, h4] at h; exact oAtD gStp cSt3 rfl rfl _ Q h
          · rw [h2, h3] at h; exact oAtD gStp cSt2 rfl rfl _ Q h
        · rw [h2] at h; exact oAtD gStp cSt1 rfl rfl _ Q h
    · exact h.elim
  · exact h.elim
def iStp : Inl := ZkG Tryz.prog [34, 3] (sF sStp)
theorem Zsk : Zbt Tryz.prog 79 iStp := Zdp (oF oStp)
def iBeg : Inl := ZkG Tryz.prog [] (sF (sAtD [] (.agg (macL 1 bH0 [bA0, bB]))))
theorem Zko : Zbt Tryz.prog 78 iBeg := Zdp (oF (oAtD (Zaq Tryz.func78 (by kernel_rfl) rfl) ZtI rfl rfl))
theorem Zrs (K : DV → Prop) : (askH Tryz.prog (hkM [] [] [(78, iBeg), (79, iStp)]) Tryz.f31 [I 0, I 2] K) = (([] : List DV) = [] ∧ [DV.agg (macL (0) bH0 [bA0, bB]), I (0)] = [DV.agg (macL (0) bH0 [bA0, bB]), I (0)] ∧ [DV.agg (macL (0) bH1 [bA1, bB]), I (0)] = [DV.agg (macL (0) bH1 [bA1, bB]), I (0)] ∧ K (DV.agg [D.s (1) (3) [[D.v (Value.int IntKind.i64 (5)), D.v (Value.int IntKind.i64 (0)), D.v (Value.int IntKind.i64 (0))], [D.v (Value.int IntKind.i64 (6)), D.v (Value.int IntKind.i64 (0)), D.v (Value.int IntKind.i64 (0))]] [], D.s (1) (3) [[D.v (Value.int IntKind.i64 (7)), D.v (Value.int IntKind.i64 (0)), D.v (Value.int IntKind.i64 (0))]] [], D.s (1) (3) [] [], D.s (1) (3) [[D.v (Value.int IntKind.i64 (9)), D.v (Value.int IntKind.i64 (0)), D.v (Value.int IntKind.i64 (0))]] [], D.v (Value.int IntKind.i64 (0)), D.v (Value.int IntKind.i64 (0)), D.v (Value.int IntKind.i64 (0)), D.v (Value.int IntKind.i64 (0)), D.v (Value.int IntKind.i64 (9)), D.s (1) (17) [[D.v (Value.int IntKind.i64 (3)), D.v (Value.int IntKind.i64 (0)), D.v (Value.int IntKind.i64 (3)), D.s (1) (4) [[D.v (Value.int IntKind.i64 (2)), D.v (Value.int IntKind.i64 (0)), D.v (Value.int IntKind.i64 (0)), D.v (Value.int IntKind.i64 (0))], [D.v (Value.int IntKind.i64 (1)), D.v (Value.int IntKind.i64 (0)), D.v (Value.int IntKind.i64 (0)), D.v (Value.int IntKind.i64 (0))], [D.v (Value.int IntKind.i64 (3)), D.v (Value.int IntKind.i64 (0)), D.v (Value.int IntKind.i64 (0)), D.v (Value.int IntKind.i64 (0))]] [], D.v (Value.int IntKind.i64 (0)), D.v (Value.int IntKind.i64 (2)), D.v (Value.int IntKind.i64 (10)), D.v (Value.int IntKind.i64 (0)), D.v (Value.int IntKind.i64 (0)), D.v (Value.int IntKind.i64 (0)), D.s (1) (3) [[D.v (Value.int IntKind.i64 (0)), D.v (Value.int IntKind.i64 (0)), D.v (Value.int IntKind.i64 (0))]] [], D.s (1) (3) [] [], D.v (Value.int IntKind.i64 (0)), D.v (Value.int IntKind.i64 (0)), D.v (Value.int IntKind.i64 (0)), D.v (Value.int IntKind.i64 (0)), D.v (Value.int IntKind.i64 (0))], [D.v (Value.int IntKind.i64 (5)), D.v (Value.int IntKind.i64 (1)), D.v (Value.int IntKind.i64 (1)), D.s (1) (4) [[D.v (Value.int IntKind.i64 (2)), D.v (Value.int IntKind.i64 (0)), D.v (Value.int IntKind.i64 (0)), D.v (Value.int IntKind.i64 (1))], [D.v (Value.int IntKind.i64 (3)), D.v (Value.int IntKind.i64 (0)), D.v (Value.int IntKind.i64 (1)), D.v (Value.int IntKind.i64 (0))]] [], D.v (Value.int IntKind.i64 (0)), D.v (Value.int IntKind.i64 (0)), D.v (Value.int IntKind.i64 (0)), D.v (Value.int IntKind.i64 (0)), D.v (Value.int IntKind.i64 (0)), D.v (Value.int IntKind.i64 (0)), D.s (1) (3) [] [], D.s (1) (3) [] [], D.v (Value.int IntKind.i64 (0)), D.v (Value.int IntKind.i64 (0)), D.v (Value.int IntKind.i64 (0)), D.v (Value.int IntKind.i64 (0)), D.v (Value.int IntKind.i64 (0))]] [], D.s (1) (4) [[D.v (Value.int IntKind.i64 (3)), D.v (Value.int IntKind.i64 (0)), D.v (Value.int IntKind.i64 (0)), D.v (Value.int IntKind.i64 (5))]] []])) := by kernel_rfl
theorem Zq5 : CT Tryz.prog 31 [I 0, I 2] (.agg (macL 1 bH2 [bA2, bB])) := by
  refine ct_m .nil .nil (.cons Zko (.cons Zsk .nil)) mixed Tryz.func31 rfl rfl rfl ?_
  rw [Zrs]
  exact ⟨by repeat (first | exact rfl | refine ⟨rfl, ?_⟩)⟩
end

section
open Go Go.Proofs
theorem eSS (s s' : SesD) (K : DV → Prop) : (askW Tryz.prog (hkF [(77, ZcW), (42, Zfo), (45, Zeq)] [] []) Tryz.f32 [.agg (sesL 0 s), .agg (sesL 0 s')] K) = (bif s.id == s'.id then bif s.lb == s'.lb then bif s.cl == s'.cl then bif okZ (4) s.pg && okZ (4) s'.pg then bif decide (toZ s.pg = toZ s'.pg) then bif s.st == s'.st then bif s.pc == s'.pc then bif eqI [s.r0, s.r1, s.r2, s.r3] [s'.r0, s'.r1, s'.r2, s'.r3] then bif okZ (3) s.rd && okZ (3) s'.rd then bif decide (toZ s.rd = toZ s'.rd) then bif okZ (3) s.wt && okZ (3) s'.wt then bif decide (toZ s.wt = toZ s'.wt) then bif s.at' == s'.at' then bif s.sp == s'.sp then bif s.tr == s'.tr then bif s.rs == s'.rs then K (B (s.to == s'.to)) else K (B false) else K (B false) else K (B false) else K (B false) else K (B false) else False else K (B false) else False else K (B false) else K (B false) else K (B false) else K (B false) else False else K (B false) else K (B false) else K (B false)) := by kernel_rfl
def Zml (s s' : SesD) : Bool := bif s.id == s'.id then bif s.lb == s'.lb then bif s.cl == s'.cl then bif decide (toZ s.pg = toZ s'.pg) then bif s.st == s'.st then bif s.pc == s'.pc then bif eqI [s.r0, s.r1, s.r2, s.r3] [s'.r0, s'.r1, s'.r2, s'.r3] then bif decide (toZ s.rd = toZ s'.rd) then bif decide (toZ s.wt = toZ s'.wt) then bif s.at' == s'.at' then bif s.sp == s'.sp then bif s.tr == s'.tr then bif s.rs == s'.rs then s.to == s'.to else false else false else false else false else false else false else false else false else false else false else false else false else false
theorem cSS (s s' : SesD) (h : ZaO s = true) (h' : ZaO s' = true) : CT Tryz.prog 32 [.agg (sesL 0 s), .agg (sesL 0 s')] (B (Zml s s')) := by
  refine Zrt (.cons ZhT (.cons Zol (.cons Zmk .nil))) .nil .nil mixed Tryz.func32 rfl rfl rfl ?_
  rw [eSS]
  refine ⟨?_⟩
  obtain ⟨a1, a2, a3⟩ := ZbF h
  obtain ⟨b1, b2, b3⟩ := ZbF h'
  simp only [a1, a2, a3, b1, b2, b3, Bool.and_self, cond_true, Zwc]
  exact AL.refl _
theorem eqI4 {a b c d a' b' c' d' : Int} : eqI [a, b, c, d] [a', b', c', d'] = true ↔ a = a' ∧ b = b' ∧ c = c' ∧ d = d' := by
  simp only [eqI, Bool.and_eq_true, beq_iff_eq, and_true]
theorem Zox {p q : Bool} : (bif p then q else false) = true ↔ p = true ∧ q = true := by cases p <;> simp
theorem ZdL {z : Nat} {R S : List (List D)} (h : okZ z R = true) (h' : okZ z S = true) (e : toZ R = toZ S) : R = S := by
  rw [(Zah h).1, (Zah h').1, e]
theorem ZmI {s s' : SesD} (h : ZaO s = true) (h' : ZaO s' = true) : Zml s s' = true ↔ s = s' := by
  obtain ⟨a1, a2, a3⟩ := ZbF h
  obtain ⟨b1, b2, b3⟩ := ZbF h'
  unfold Zml
  simp only [Zox, eqI4, beq_iff_eq, decide_eq_true_eq]
  constructor
  · rintro ⟨e0, e1, e2, e3, e4, e5, ⟨e6, e7, e8, e9⟩, e10, e11, e12, e13, e14, e15, e16⟩
    have e3 := ZdL a1 b1 e3
    have e10 := ZdL a2 b2 e10
    have e11 := ZdL a3 b3 e11
    cases s; cases s'
    simp only at *
    subst e0 e1 e2 e3 e4 e5 e6 e7 e8 e9 e10 e11 e12 e13 e14 e15 e16
    rfl
  · rintro rfl; simp
def sSS : Spec := fun ds Q => match ds with
  | [d, e] => sesA d fun s => sesA e fun s' => cond (ZaO s && ZaO s') (Q (B (Zml s s'))) False
  | _ => False
theorem oSS : Zad Tryz.prog 32 sSS := o_al Tryz.func32 (by kernel_rfl) rfl fun ds Q h => by
  unfold sSS at h; split at h
  · obtain ⟨s, h, r1⟩ := ZbN h
    obtain ⟨s', h, r2⟩ := ZbN h
    obtain ⟨h1, h2⟩ := Zag h
    rw [Bool.and_eq_true] at h1
    exact ⟨_, _, .cons r1 (.cons r2 .nil), cSS s s' h1.1 h1.2, rfl, rfl, h2⟩
  · exact h.elim
theorem eSA (R0 R1 R2 R3 S0 S1 S2 S3 : List (List D)) (K : DV → Prop) : (askW Tryz.prog (hkF [(88, Ze8)] [] []) Tryz.f41 [.agg (wsL R0 R1 R2 R3), .agg (wsL S0 S1 S2 S3)] K) = (bif okZ (3) R0 && okZ (3) S0 then bif !decide (toZ R0 = toZ S0) then K (B false) else bif okZ (3) R1 && okZ (3) S1 then bif !decide (toZ R1 = toZ S1) then K (B false) else bif okZ (3) R2 && okZ (3) S2 then bif !decide (toZ R2 = toZ S2) then K (B false) else bif okZ (3) R3 && okZ (3) S3 then bif !decide (toZ R3 = toZ S3) then K (B false) else K (B true) else False else False else False else False) := by kernel_rfl
def Zme (R0 R1 R2 R3 S0 S1 S2 S3 : List (List D)) : Bool := bif decide (toZ R0 = toZ S0) then bif decide (toZ R1 = toZ S1) then bif decide (toZ R2 = toZ S2) then bif decide (toZ R3 = toZ S3) then true else false else false else false else false
theorem cSA (R0 R1 R2 R3 S0 S1 S2 S3 : List (List D)) (h : okA R0 R1 R2 R3 = true) (h' : okA S0 S1 S2 S3 = true) : CT Tryz.prog 41 [.agg (wsL R0 R1 R2 R3), .agg (wsL S0 S1 S2 S3)] (B (Zme R0 R1 R2 R3 S0 S1 S2 S3)) := by
  refine Zrt (.cons ZnU .nil) .nil .nil mixed Tryz.func41 rfl rfl rfl ?_
  rw [eSA]
  refine ⟨?_⟩
  obtain ⟨a0, a1, a2, a3⟩ := Zb1 h
  obtain ⟨b0, b1, b2, b3⟩ := Zb1 h'
  simp only [a0, a1, a2, a3, b0, b1, b2, b3, Bool.and_self, cond_true, Zu3]
  exact AL.refl _
theorem Zqp {R0 R1 R2 R3 S0 S1 S2 S3 : List (List D)} (h : okA R0 R1 R2 R3 = true) (h' : okA S0 S1 S2 S3 = true) : Zme R0 R1 R2 R3 S0 S1 S2 S3 = true ↔ R0 = S0 ∧ R1 = S1 ∧ R2 = S2 ∧ R3 = S3 := by
  obtain ⟨a0, a1, a2, a3⟩ := Zb1 h
  obtain ⟨b0, b1, b2, b3⟩ := Zb1 h'
  unfold Zme
  simp only [Zox, decide_eq_true_eq]
  constructor
  · rintro ⟨e0, e1, e2, e3, _⟩
    exact ⟨ZdL a0 b0 e0, ZdL a1 b1 e1, ZdL a2 b2 e2, ZdL a3 b3 e3⟩
  · rintro ⟨rfl, rfl, rfl, rfl⟩; simp
def sSA : Spec := fun ds Q => match ds with
  | [.agg cs, .agg es] => cond (Zkl cs && Nat.beq cs.length 4 && (Zkl es && Nat.beq es.length 4)) (Zib cs fun R0 R1 R2 R3 => Zib es fun S0 S1 S2 S3 => cond (okA R0 R1 R2 R3 && okA S0 S1 S2 S3) (Q (B (Zme R0 R1 R2 R3 S0 S1 S2 S3))) False) False
  | _ => False
theorem oSA : Zad Tryz.prog 41 sSA := o_al Tryz.func41 (by kernel_rfl) rfl fun ds Q h => by
  unfold sSA at h; split at h
  · obtain ⟨h0, h⟩ := Zag h
    simp only [Bool.and_eq_true] at h0
    obtain ⟨R0, R1, R2, R3, h, r1⟩ := Zdi h
    obtain ⟨S0, S1, S2, S3, h, r2⟩ := Zdi h
    obtain ⟨h1, h2⟩ := Zag h
    rw [Bool.and_eq_true] at h1
    rw [List.take_of_length_le (Nat.le_of_eq (Zaa h0.1.2))] at r1
    rw [List.take_of_length_le (Nat.le_of_eq (Zaa h0.2.2))] at r2
    exact ⟨_, _, .cons (.agg r1 h0.1.1 rfl) (.cons (.agg r2 h0.2.1 rfl) .nil), cSA R0 R1 R2 R3 S0 S1 S2 S3 h1.1 h1.2, rfl, rfl, h2⟩
  · exact h.elim
def stSM (h : Mh) (ss : List SesD) (h' : Mh) (ss' : List SesD) (v : Bool) (i : Int) : X := ⟨mkT 62 [(2, .c (.rp 3 0 11 0 0)), (3, .c (.rp 4 0 11 0 0)), (4, ab v), (5, ai i)], [(3, .bx 0 11 ((macL 0 h ss).map C.d)), (4, .bx 0 11 ((macL 0 h' ss').map C.d))], [], []⟩
def ZhL (h : Mh) (ss : List SesD) (h' : Mh) (ss' : List SesD) : Vw := fun y K => wB y 4 fun v => wI y 5 fun i => K (stSM h ss h' ss' v i)
theorem ZjK (h : Mh) (ss : List SesD) (h' : Mh) (ss' : List SesD) : VwOK (ZhL h ss h' ss') := fun y K h => by
  unfold ZhL at h
  obtain ⟨v, h⟩ := ZdM h
  obtain ⟨i, h⟩ := Za7 h
  exact ⟨_, h⟩
theorem rSM (h : Mh) (ss : List SesD) (h' : Mh) (ss' : List SesD) (v : Bool) (i : Int) (N : X → Prop) (E : Exit → X → Prop) : (ZaX Tryz.prog (hkF [(32, sSS)] [] []) Tryz.f24 0 [] [2, 3, 4, 5] [3, 4] (ZhL h ss h' ss') (fun _ => ZhL h ss h' ss') N E (stSM h ss h' ss' v i)) = (bif decide (i < @Nat.cast Int _ (List.length (List.map (sesL (0)) ss))) then bif decide (0 ≤ i) && decide (i < @Nat.cast Int _ (List.length (List.map (sesL (0)) ss))) then ∃ s, Ze2 (List.map (sesL (0)) ss) (Int.toNat i) (0) s ∧ bif decide (0 ≤ i) && decide (i < @Nat.cast Int _ (List.length (List.map (sesL (0)) ss'))) then ∃ s_1, Ze2 (List.map (sesL (0)) ss') (Int.toNat i) (0) s_1 ∧ bif ZaO s && ZaO s_1 then bif !Zml s s_1 then stSM h ss h' ss' false i = stSM h ss h' ss' false i ∧ E Exit.ret (stSM h ss h' ss' false i) else stSM h ss h' ss' v (IntKind.wrap IntKind.i64 (i + 1)) = stSM h ss h' ss' v (IntKind.wrap IntKind.i64 (i + 1)) ∧ N (stSM h ss h' ss' v (IntKind.wrap IntKind.i64 (i + 1))) else False else False else False else stSM h ss h' ss' v i = stSM h ss h' ss' v i ∧ E (Exit.exit (0)) (stSM h ss h' ss' v i)) := by kernel_rfl
def sesN (ss : List SesD) (i : Nat) : SesD := ss.getD i default
def unl (ss ss' : List SesD) (i : Nat) : Bool := !Zml (sesN ss i) (sesN ss' i)
def fSM (h : Mh) (ss : List SesD) (h' : Mh) (ss' : List SesD) : LSum := fun Q x => ss.length = ss'.length ∧ Zde [2, 3, 4, 5] [3, 4] (fun i => stSM h ss h' ss' false i) (fun i => stSM h ss h' ss' false i) ss.length (unl ss ss') .ret (.exit 0) Q x
theorem eSM (h : Mh) (ss : List SesD) (h' : Mh) (ss' : List SesD) (K : DV → Prop) : (askW Tryz.prog (hkFL [(41, sSA), (59, Zc7)] [] [] [(4, fSM h ss h' ss')]) Tryz.f24 [.agg (macL 0 h ss), .agg (macL 0 h' ss')] K) = (bif okA h.w0 h.w1 h.w2 h.w3 && okA h'.w0 h'.w1 h'.w2 h'.w3 then bif !Zme h.w0 h.w1 h.w2 h.w3 h'.w0 h'.w1 h'.w2 h'.w3 then K (B false) else bif !eqI [h.c0, h.c1, h.c2, h.c3] [h'.c0, h'.c1, h'.c2, h'.c3] then K (B false) else bif h.ce != h'.ce then K (B false) else bif @Nat.cast Int _ (List.length (List.map (sesL (0)) ss)) != @Nat.cast Int _ (List.length (List.map (sesL (0)) ss')) then K (B false) else bif okZ (4) h.tr && okZ (4) h'.tr then bif !decide (toZ h.tr = toZ h'.tr) then K (B false) else List.length ss = List.length ss' ∧ stSM h ss h' ss' false (0) = stSM h ss h' ss' false (0) ∧ (∀ (i : Nat), firstAt (unl ss ss') (List.length ss) i → K (B false)) ∧ (noneTo (unl ss ss') (List.length ss) → K (B true)) else False else False) := by kernel_rfl
theorem Zlp {ss : List SesD} {i t : Nat} (h : i < ss.length) : Ze2 (List.map (sesL t) ss) i t (sesN ss i) := Zkg (by unfold sesN; rw [List.getD_eq_getElem?_getD, List.getElem?_eq_getElem h]; rfl)
theorem Zdb {ss : List SesD} {i : Nat} (h : i < ss.length) : sesN ss i ∈ ss := by
  unfold sesN
  rw [List.getD_eq_getElem?_getD, List.getElem?_eq_getElem h]
  exact List.getElem_mem h
theorem kSM {h : Mh} {ss : List SesD} {h' : Mh} {ss' : List SesD} (hs : okSS ss = true) (hs' : okSS ss' = true) (hn : ss.length ≤ 9223372036854775806) (Q : Exit → X → Prop) (x : X) (hq : fSM h ss h' ss' Q x) : XWP Tryz.prog (.loop (Zal Tryz.f24 0)) Q x := by
  obtain ⟨hl, hq⟩ := hq
  have q1 := List.all_eq_true.1 hs
  have q2 := List.all_eq_true.1 hs'
  refine Zbq (sw := []) (V := ZhL h ss h' ss') (VE := fun _ => ZhL h ss h' ss') mixed (ZjK h ss h' ss') (fun _ => ZjK h ss h' ss') _ _ _ _ _ _ (fun i hi => ⟨hkF [(32, sSS)] [] [], ZeJ (.cons oSS .nil) .nil .nil, Zae rfl, fun N E h1 h2 => ?_⟩) ⟨hkF [(32, sSS)] [] [], ZeJ (.cons oSS .nil) .nil .nil, Zae rfl, fun N E h1 => ?_⟩ Q x hq
  · rw [rSM]
    have wi : IntKind.wrap IntKind.i64 ((i : Int) + 1) = ((i + 1 : Nat) : Int) := Zaj (n := 1) (by omega)
    have hi' : i < ss'.length := by omega
    simp only [List.length_map, Int.ofNat_lt, hi, hi', decide_true, cond_true, Int.natCast_nonneg, Bool.and_self, Int.toNat_natCast, wi]
    refine ⟨sesN ss i, Zlp hi, sesN ss' i, Zlp hi', ?_⟩
    rw [q1 _ (Zdb hi), q2 _ (Zdb hi')]
    unfold unl at h1 h2
    generalize Zml (sesN ss i) (sesN ss' i) = u at h1 h2 ⊢
    cases u
    · exact ⟨trivial, h1 rfl⟩
    · exact ⟨trivial, h2 rfl⟩
  · rw [rSM]
    simp only [List.length_map, Int.ofNat_lt, Nat.lt_irrefl, decide_false, cond_false, true_and]
    exact h1
def Zo0 (h : Mh) (ss : List SesD) (h' : Mh) (ss' : List SesD) : Bool := Zme h.w0 h.w1 h.w2 h.w3 h'.w0 h'.w1 h'.w2 h'.w3 && (eqI [h.c0, h.c1, h.c2, h.c3] [h'.c0, h'.c1, h'.c2, h'.c3] && (h.ce == h'.ce && (decide (ss.length = ss'.length) && (decide (toZ h.tr = toZ h'.tr) && !(List.range ss.length).any (unl ss ss')))))
theorem ZqB {ss ss' : List SesD} (hl : ss.length = ss'.length) (h : ∀ i, i < ss.length → sesN ss i = sesN ss' i) : ss = ss' := by
  apply List.ext_getElem hl
  intro i h1 h2
  have := h i h1
  unfold sesN at this
  rwa [List.getD_eq_getElem?_getD, List.getD_eq_getElem?_getD, List.getElem?_eq_getElem h1, List.getElem?_eq_getElem h2] at this
theorem Zra {h : Mh} {ss : List SesD} {h' : Mh} {ss' : List SesD} (ho : okM h ss = true) (ho' : okM h' ss' = true) : Zo0 h ss h' ss' = true ↔ h = h' ∧ ss = ss' := by
  obtain ⟨a1, a2, a3⟩ := Zby ho
  obtain ⟨b1, b2, b3⟩ := Zby ho'
  have q1 := List.all_eq_true.1 a3
  have q2 := List.all_eq_true.1 b3
  unfold Zo0
  simp only [Bool.and_eq_true, Zqp a1 b1, eqI4, beq_iff_eq, decide_eq_true_eq, Bool.not_eq_true', List.any_eq_false, List.mem_range]
  constructor
  · rintro ⟨⟨e0, e1, e2, e3⟩, ⟨e4, e5, e6, e7⟩, e8, e9, e10, e11⟩
    have e10 := ZdL a2 b2 e10
    refine ⟨?_, ZqB e9 fun i hi => ?_⟩
    · cases h; cases h'
      simp only at *
      subst e0 e1 e2 e3 e4 e5 e6 e7 e8 e10
      rfl
    · have := e11 i hi
      unfold unl at this
      simp only [Bool.not_eq_true, Bool.not_eq_false'] at this
      exact (ZmI (q1 _ (Zdb hi)) (q2 _ (Zdb (by omega)))).1 (by simpa using this)
  · rintro ⟨rfl, rfl⟩
    refine ⟨⟨rfl, rfl, rfl, rfl⟩, ⟨rfl, rfl, rfl, rfl⟩, rfl, rfl, rfl, fun i hi => ?_⟩
    unfold unl
    rw [(ZmI (q1 _ (Zdb hi)) (q1 _ (Zdb hi))).2 rfl]; simp
theorem cSM (h : Mh) (ss : List SesD) (h' : Mh) (ss' : List SesD) (ho : okM h ss = true) (ho' : okM h' ss' = true) (hn : ss.length ≤ 9223372036854775806) : CT Tryz.prog 24 [.agg (macL 0 h ss), .agg (macL 0 h' ss')] (B (Zo0 h ss h' ss')) := by
  obtain ⟨a1, a2, a3⟩ := Zby ho
  obtain ⟨b1, b2, b3⟩ := Zby ho'
  refine Zq9 (m := [(4, fSM h ss h' ss')]) (.cons oSA (.cons ZgM .nil)) .nil .nil mixed (Zew (i := 0) (fun j hj _ => by have : j < 1 := hj; omega) (kSM a3 b3 hn)) Tryz.func24 rfl rfl rfl ?_
  rw [eSM]
  refine ⟨?_⟩
  unfold Zo0
  simp only [a1, a2, b1, b2, Bool.and_self, cond_true, List.length_map]
  cases Zme h.w0 h.w1 h.w2 h.w3 h'.w0 h'.w1 h'.w2 h'.w3
  · exact AL.refl _
  · cases eqI [h.c0, h.c1, h.c2, h.c3] [h'.c0, h'.c1, h'.c2, h'.c3]
    · exact AL.refl _
    · cases hc : h.ce == h'.ce
      · have : (h.ce != h'.ce) = true := by unfold bne; rw [hc]; rfl
        rw [this]; exact AL.refl _
      · have : (h.ce != h'.ce) = false := by unfold bne; rw [hc]; rfl
        rw [this]
        by_cases hl : ss.length = ss'.length
        · have : (@Nat.cast Int _ (List.length ss) != @Nat.cast Int _ (List.length ss')) = false := by rw [hl]; simp
          rw [this, decide_eq_true hl]
          cases decide (toZ h.tr = toZ h'.tr)
          · exact AL.refl _
          · refine ⟨hl, trivial, fun i hi => ?_, fun hn => ?_⟩
            · rw [hi.b]; exact AL.refl _
            · rw [hn.b]; exact AL.refl _
        · have : (@Nat.cast Int _ (List.length ss) != @Nat.cast Int _ (List.length ss')) = true := by simp; omega
          rw [this, decide_eq_false hl]; exact AL.refl _
def sSM : Spec := fun ds Q => match ds with
  | [d, e] => macA d fun h ss => macA e fun h' ss' => cond (okM h ss && (okM h' ss' && Nat.ble ss.length 4)) (Q (B (Zo0 h ss h' ss'))) False
  | _ => False
theorem oSM : Zad Tryz.prog 24 sSM := o_al Tryz.func24 (by kernel_rfl) rfl fun ds Q hq => by
  unfold sSM at hq; split at hq
  · obtain ⟨h, ss, hq, r1⟩ := ZbL hq
    obtain ⟨h', ss', hq, r2⟩ := ZbL hq
    obtain ⟨h1, h2⟩ := Zag hq
    simp only [Bool.and_eq_true] at h1
    exact ⟨_, _, .cons r1 (.cons r2 .nil), cSM h ss h' ss' h1.1 h1.2.1 (by have := Nat.le_of_ble_eq_true h1.2.2; omega), rfl, rfl, h2⟩
  · exact hq.elim
end

section
open Go Go.Proofs
def iNew : Inl := inlM Tryz.prog [(48, ZnB), (49, Zhw), (26, Zqy)] [] [] Tryz.f20
theorem Ztw : Zbt Tryz.prog 20 iNew := Zbl (.cons ZwO (.cons ZuG (.cons Zt4 .nil))) .nil .nil mixed Tryz.func20 rfl (Zaq Tryz.func20 (by kernel_rfl) rfl)
def iTel : Inl := ZkG Tryz.prog [34, 3, 3, 3] (sF sTel)
theorem Zsl : Zbt Tryz.prog 22 iTel := Zdp (oF oTel)
def ZuQ (k : Int) (h : Mh) (s : SesD) : Inl := ZkG Tryz.prog [3, 3] (sF (sAtD [I 0, I k] (.agg (macL 1 h [s, bB]))))
theorem ZlA : Zbt Tryz.prog 31 (ZuQ 2 bH2 bA2) := Zdp (oF (oAtD (Zaq Tryz.func31 (by kernel_rfl) rfl) Zq5 rfl rfl))
theorem ZvX (K : DV → Prop) : (askH Tryz.prog (hkM [(26, Zqy), (24, sSM), (59, Zc7), (25, sI)] [] [(78, iBeg), (22, iTel), (20, iNew), (31, ZuQ 2 bH2 bA2)]) Tryz.f30 [] K) = (([] : List DV) = [] ∧ ([] : List DV) = [] ∧ ([] : List DV) = [] ∧ [I (0), I (2)] = [I (0), I (2)] ∧ K (B true)) := by kernel_rfl
theorem ZvR : CT Tryz.prog 30 [] (B true) := by
  refine ct_m (.cons Zt4 (.cons oSM (.cons ZgM (.cons oNum .nil)))) .nil (.cons Zko (.cons Zsl (.cons Ztw (.cons ZlA .nil)))) mixed Tryz.func30 rfl rfl rfl ?_
  rw [ZvX]
  exact ⟨by repeat (first | exact rfl | refine ⟨rfl, ?_⟩)⟩
theorem ZvG : Zad Tryz.prog 30 (sAtD [] (B true)) := oAtD (Zaq Tryz.func30 (by kernel_rfl) rfl) ZvR rfl rfl
end

section
open Go Go.Proofs
theorem OD.frz {w : World} {G : Nat → Prop} {v : Value} {S G' S' : Nat → Prop} {d e : D} (h : RD d e) (he : e.isOwn = false) (hg : ∀ b, G b → G' b) (hs : ∀ b, S b → G' b) (hv : OD w G v d S) : OD w G' v e S' := by
  refine .r _ _ _ (fun z rows sp q => ?_) (h _ _ _ (hv.read hg hs))
  subst q; cases he
theorem ZvY {d e : D} (h : RD d e) (he : e.isOwn = false) : Frz (.c d) (.c e) := fun w G v S hv => by
  cases hv with
  | c _ _ _ hx => exact .c _ _ _ (hx.frz h he (fun _ => .inl) (fun _ => .inr))
theorem Zl3 {cs cs' : List D} (h : All2 RD cs cs') (he : cs'.all (fun d => !d.isOwn) = true) : Frz (.agg cs) (.agg cs') := fun w G v S hv => by
  cases hv with
  | agg vs _ _ sub h1 h2 h3 h4 =>
    refine .agg vs cs' _ (fun _ _ => False) (by rw [← h.len]; exact h1) (fun i e hi => ?_) (fun _ _ q => q) (fun _ _ _ q => q.elim)
    obtain ⟨d, g1, g2⟩ := h.get hi
    have a2 := List.all_eq_true.1 he e (List.mem_of_getElem? hi)
    exact (h2 i d g1).frz g2 (by simpa using a2) (fun _ => .inl) (fun b hb => .inr (h3 i b hb))
theorem Ztq {xs ys : List DV} (h : All2 Frz xs ys) : Frz (.tup xs) (.tup ys) := fun w G v S hv => by
  cases hv with
  | tup vs _ _ sub h1 h2 h3 h4 =>
    refine .tup vs ys _ (fun _ _ => False) (by rw [← h.len]; exact h1) (fun i e hi => ?_) (fun _ _ q => q) (fun _ _ _ q => q.elim)
    obtain ⟨d, g1, g2⟩ := h.get hi
    exact (g2 _ _ _ _ (h2 i d g1)).mono (fun b hb => hb.elim .inl fun q => .inr (h3 i b q)) (.refl _ _) (.refl _ _)
theorem Zu1 {t t' : Nat} (s : SesD) : All2 RD (sesL t s) (sesL t' s) :=
  .cons (.refl _) (.cons (.refl _) (.cons (.refl _) (.cons .slice (.cons (.refl _) (.cons (.refl _) (.cons (.refl _) (.cons (.refl _) (.cons (.refl _) (.cons (.refl _) (.cons .slice (.cons .slice (.cons (.refl _) (.cons (.refl _) (.cons (.refl _) (.cons (.refl _) (.cons (.refl _) .nil))))))))))))))))
theorem ZoZ {t t' : Nat} : ∀ ss : List SesD, All2 (All2 RD) (ss.map (sesL t)) (ss.map (sesL t'))
  | [] => .nil
  | s :: ss => .cons (Zu1 s) (ZoZ ss)
theorem Zr1 {t t' : Nat} (h : Mh) (ss : List SesD) : All2 RD (macL t h ss) (macL t' h ss) :=
  .cons .slice (.cons .slice (.cons .slice (.cons .slice (.cons (.refl _) (.cons (.refl _) (.cons (.refl _) (.cons (.refl _) (.cons (.refl _) (.cons (.rows (ZoZ ss)) (.cons .slice .nil))))))))))
def macZ (h : Mh) (ss : List SesD) (e : Int) : DV := .tup [.agg (macL 0 h ss), I e]
theorem ZmR (h : Mh) (ss : List SesD) (e : Int) : Frz (macR h ss e) (macZ h ss e) := Ztq (.cons (Zl3 (Zr1 h ss) rfl) (.cons (ZvY (.refl _) rfl) .nil))
def Zn2 (ds es : List DV) : Prop := All2 AL ds es
def sAtL (es : List DV) (r : DV) : Spec := fun ds Q => Zn2 ds es ∧ Q r
theorem oAtL {f : FuncId} {fn : Func} {es : List DV} {r : DV} (hf : Tryz.prog.funcs[f]? = some fn) (hn : (fn.name == "runtime.NumGoroutine") = false) (hb : fn.body.isNone = false) (hc : CT Tryz.prog f es r) (hp : r.pureOwn = true) (hfit : r.fit32 = true) : Zad Tryz.prog f (sAtL es r) :=
  o_al hf hn hb fun ds Q hq => ⟨_, _, hq.1, hc, hp, hfit, hq.2⟩
theorem ZwB : Goes Tryz.prog 19 := Zaq Tryz.func19 (by kernel_rfl) rfl
end

section
open Go Go.Proofs
def kSes : List KT := [.int, .int, .int, .sl (List.replicate 4 .int) 32, .int, .int, .int, .int, .int, .int, .sl (List.replicate 3 .int) 24, .sl (List.replicate 3 .int) 24, .int, .int, .int, .int, .int]
def kMac : List KT := [.sl (List.replicate 3 .int) 24, .sl (List.replicate 3 .int) 24, .sl (List.replicate 3 .int) 24, .sl (List.replicate 3 .int) 24, .int, .int, .int, .int, .int, .sl kSes 184, .sl (List.replicate 4 .int) 32]
theorem GoodL.i {cs : List KT} {ds : List D} (h : GoodL (.int :: cs) ds) : ∃ n ds', ds = vN n :: ds' ∧ GoodL cs ds' := by
  obtain ⟨d, ds', rfl, h1, h2⟩ := h.cons_inv
  obtain ⟨n, rfl, _⟩ := h1.int_inv
  exact ⟨n, ds', rfl, h2⟩
end

section
open Go Go.Proofs
theorem GoodL.rb {z b : Nat} {cs : List KT} {ds : List D} (h : GoodL (.sl (List.replicate z .int) b :: cs) ds) : ∃ R ds', ds = .s 0 z R [] :: ds' ∧ okZ z R = true ∧ R.length * b ≤ 140737488351232 ∧ GoodL cs ds' := by
  obtain ⟨d, ds', rfl, h1, h2⟩ := h.cons_inv
  obtain ⟨R, rfl, h3, h4⟩ := h1.rows
  exact ⟨R, ds', rfl, h3, h4, h2⟩
theorem ZwI {r : List D} (h : GoodL kSes r) : ∃ s, r = sesL 0 s ∧ ZaO s = true ∧ smS s = true := by
  unfold kSes at h
  obtain ⟨x0, r0, rfl, g0⟩ := h.i
  obtain ⟨x1, r1, rfl, g1⟩ := g0.i
  obtain ⟨x2, r2, rfl, g2⟩ := g1.i
  obtain ⟨x3, r3, rfl, o3, bo3, g3⟩ := g2.rb
  obtain ⟨x4, r4, rfl, g4⟩ := g3.i
  obtain ⟨x5, r5, rfl, g5⟩ := g4.i
  obtain ⟨x6, r6, rfl, g6⟩ := g5.i
  obtain ⟨x7, r7, rfl, g7⟩ := g6.i
  obtain ⟨x8, r8, rfl, g8⟩ := g7.i
  obtain ⟨x9, r9, rfl, g9⟩ := g8.i
  obtain ⟨x10, r10, rfl, o10, bo10, g10⟩ := g9.rb
  obtain ⟨x11, r11, rfl, o11, bo11, g11⟩ := g10.rb
  obtain ⟨x12, r12, rfl, g12⟩ := g11.i
  obtain ⟨x13, r13, rfl, g13⟩ := g12.i
  obtain ⟨x14, r14, rfl, g14⟩ := g13.i
  obtain ⟨x15, r15, rfl, g15⟩ := g14.i
  obtain ⟨x16, r16, rfl, g16⟩ := g15.i
  obtain rfl := g16.nil_inv
  refine ⟨⟨x0, x1, x2, x3, x4, x5, x6, x7, x8, x9, x10, x11, x12, x13, x14, x15, x16⟩, rfl, ?_, ?_⟩
  · show (okZ 4 x3 && (okZ 3 x10 && okZ 3 x11)) = true
    rw [o3, o10, o11]; rfl
  · show (smR 4398046510977 x3 && (smR 5864062014635 x10 && smR 5864062014635 x11)) = true
    rw [ZcF o3 (Nat.le_refl _) (by omega), ZcF o10 (Nat.le_refl _) (by omega), ZcF o11 (Nat.le_refl _) (by omega)]; rfl
theorem Zr8 : ∀ rows : List (List D), (∀ r ∈ rows, GoodL kSes r) → ∃ ss : List SesD, rows = ss.map (sesL 0) ∧ okSS ss = true ∧ ss.all smS = true
  | [], _ => ⟨[], rfl, rfl, rfl⟩
  | r :: rows, h => by
    obtain ⟨s, rfl, hs, ks⟩ := ZwI (h r (by simp))
    obtain ⟨ss, rfl, hss, kss⟩ := Zr8 rows fun r hr => h r (by simp [hr])
    refine ⟨s :: ss, rfl, ?_, by rw [List.all_cons, ks, kss]; rfl⟩
    unfold okSS at hss ⊢
    rw [List.all_cons, hs, hss]; rfl
theorem ZwH {r : List D} (h : GoodL kMac r) : ∃ m ss, r = macL 0 m ss ∧ okM m ss = true ∧ smM m ss = true ∧ ss.length * 184 ≤ 140737488351232 := by
  unfold kMac at h
  obtain ⟨x0, r0, rfl, o0, bo0, g0⟩ := h.rb
  obtain ⟨x1, r1, rfl, o1, bo1, g1⟩ := g0.rb
  obtain ⟨x2, r2, rfl, o2, bo2, g2⟩ := g1.rb
  obtain ⟨x3, r3, rfl, o3, bo3, g3⟩ := g2.rb
  obtain ⟨x4, r4, rfl, g4⟩ := g3.i
  obtain ⟨x5, r5, rfl, g5⟩ := g4.i
  obtain ⟨x6, r6, rfl, g6⟩ := g5.i
  obtain ⟨x7, r7, rfl, g7⟩ := g6.i
  obtain ⟨x8, r8, rfl, g8⟩ := g7.i
  obtain ⟨d, r9, rfl, h9, g9⟩ := g8.cons_inv
  obtain ⟨rows, rfl, hb, _, hr⟩ := h9.sl_inv
  obtain ⟨ss, rfl, hss, kss⟩ := Zr8 rows hr
  obtain ⟨x10, r10, rfl, o10, bo10, g10⟩ := g9.rb
  obtain rfl := g10.nil_inv
  refine ⟨{ w0 := x0, w1 := x1, w2 := x2, w3 := x3, c0 := x4, c1 := x5, c2 := x6, c3 := x7, ce := x8, tr := x10 }, ss, rfl, ?_, ?_, by rwa [List.length_map] at hb⟩
  · unfold okM okA
    show (okZ 3 x0 && (okZ 3 x1 && (okZ 3 x2 && okZ 3 x3)) && (okZ 4 x10 && okSS ss)) = true
    rw [o0, o1, o2, o3, o10, hss]; rfl
  · have c : ∀ {R : List (List D)}, okZ 3 R = true → R.length * 24 ≤ 140737488351232 → okC R = true := fun {R} h1 h2 => by
      have := ZcF (n := 5864062014635) h1 (Nat.le_refl _) (by omega)
      unfold smR at this
      unfold okC
      simpa using this
    show (okC x0 && (okC x1 && (okC x2 && okC x3)) && (smR 4398046510977 x10 && ss.all smS)) = true
    rw [ZcF o10 (Nat.le_refl _) (by omega), kss, c o0 bo0, c o1 bo1, c o2 bo2, c o3 bo3]; rfl
end

section
open Go Go.Proofs
def lX (R : List (List D)) : Bool := decide (0 + List.length R ≤ List.length (R ++ []))
def cC (R : List (List D)) : List (List D) := cut (R ++ []) 0 (List.length R)
def cD (R : List (List D)) : List (List D) := cut (R ++ []) (0 + List.length R) (List.length R + 0 - List.length R)
def aX (R : List (List D)) : Bool := allV (R ++ [])
theorem lX_t (R : List (List D)) : lX R = true := by simp [lX]
theorem cC_e (R : List (List D)) : cC R = R := by unfold cC; rw [List.append_nil]; exact Ze6 rfl
theorem cD_e (R : List (List D)) : cD R = [] := by simp [cD, cut]
theorem kX_t {R : List (List D)} (h : allV R = true) : kX R = true := by
  unfold kX
  rw [List.append_nil, Zao h]; simp
theorem aX_t {R : List (List D)} (h : allV R = true) : aX R = true := by unfold aX; rwa [List.append_nil]
theorem tC_e (R : List (List D)) : tC R = R := by simp [tC]
theorem tD_e (R : List (List D)) : tD R = [] := by simp [tD]
def ZqX (h : Mh) (ss : List SesD) (i : Int) (W0 W1 W2 W3 : List (List D)) : X := ⟨mkT 35 [(1, .c (.rp 2 0 11 0 0)), (2, .c (.rp 3 0 11 0 0)), (3, .c (.rp 4 0 11 0 0)), (4, ai i)], [(2, .bx 0 11 ((macL 0 h ss).map C.d)), (3, .bx 0 11 (mac0.map C.d)), (4, .bx 0 11 [.rs 9000 0 3 0 h.w0.length h.w0.length, .rs 9001 0 3 0 h.w1.length h.w1.length, .rs 9002 0 3 0 h.w2.length h.w2.length, .rs 9003 0 3 0 h.w3.length h.w3.length, ci h.c0, ci h.c1, ci h.c2, ci h.c3, ci h.ce, .d nilV, .d (.s 0 4 h.tr [])]), (9000, .sl 0 3 W0), (9001, .sl 0 3 W1), (9002, .sl 0 3 W2), (9003, .sl 0 3 W3)], [], []⟩
abbrev stC0 (h : Mh) (ss : List SesD) (i : Int) : X := ZqX h ss i h.w0 h.w1 h.w2 h.w3
def stC (h : Mh) (ss : List SesD) (i : Int) (n m : Nat) (R : List (List D)) : X := ⟨mkT 35 [(1, .c (.rp 2 0 11 0 0)), (2, .c (.rp 3 0 11 0 0)), (3, .c (.rp 4 0 11 0 0)), (4, ai i)], [(2, .bx 0 11 ((macL 0 h ss).map C.d)), (3, .bx 0 11 (mac0.map C.d)), (4, .bx 0 11 [.rs 9000 0 3 0 h.w0.length h.w0.length, .rs 9001 0 3 0 h.w1.length h.w1.length, .rs 9002 0 3 0 h.w2.length h.w2.length, .rs 9003 0 3 0 h.w3.length h.w3.length, ci h.c0, ci h.c1, ci h.c2, ci h.c3, ci h.ce, .rs 28 0 17 0 n m, .d (.s 0 4 h.tr [])]), (9000, .sl 0 3 h.w0), (9001, .sl 0 3 h.w1), (9002, .sl 0 3 h.w2), (9003, .sl 0 3 h.w3), (28, .sl 0 17 R)], [], []⟩
def wCn : Nat → List C → (C → Prop) → Prop
  | 0, r, K => wC r fun c _ => K c
  | n + 1, r, K => wC r fun _ r => wCn n r K
theorem ZjZ : ∀ {n : Nat} {r : List C} {K : C → Prop}, wCn n r K → ∃ c, K c
  | 0, r, K, h => by obtain ⟨c, _, h⟩ := Zug h; exact ⟨c, h⟩
  | n + 1, r, K, h => by obtain ⟨_, r, h⟩ := Zug h; exact ZjZ h
def ZjT (h : Mh) (ss : List SesD) : Vw := fun y K => wI y 4 fun i => wR y 4 fun r => wCn 9 r fun c => cS c fun n m => wL y 28 fun R => K (stC h ss i n m R)
theorem ZmE (h : Mh) (ss : List SesD) : VwOK (ZjT h ss) := fun y K q => by
  unfold ZjT at q
  obtain ⟨i, q⟩ := Za7 q
  obtain ⟨r, q⟩ := Zq6 q
  obtain ⟨c, q⟩ := ZjZ q
  obtain ⟨n, m, q⟩ := Zqs q
  obtain ⟨R, q⟩ := Zb8 q
  exact ⟨_, q⟩
theorem rC0 (h : Mh) (ss : List SesD) (N : X → Prop) (E : Exit → X → Prop) : (ZaX Tryz.prog (hkC [(47, ZcK)] [] [] []) Tryz.f19 0 [] [1, 2, 3, 4] [2, 3, 4, 9000, 9001, 9002, 9003, 28] (ZjT h ss) (fun _ => ZjT h ss) N E (stC0 h ss 0)) = (bif decide (0 < @Nat.cast Int _ (List.length (List.map (sesL (0)) ss))) then bif true && decide (0 < @Nat.cast Int _ (List.length (List.map (sesL (0)) ss))) then ∃ s, Ze2 (List.map (sesL (0)) ss) (0) (0) s ∧ bif smS s then foAt (0) (0) (1) ∧ whole (List.length s.pg) (s.pg ++ []) ∧ foAt (0) (0) (1) ∧ whole (List.length s.rd) (s.rd ++ []) ∧ foAt (0) (0) (1) ∧ whole (List.length s.wt) (s.wt ++ []) ∧ stC h ss (1) (1) (1) [(sesL (1) { s with pg := (s.pg ++ []), rd := (s.rd ++ []), wt := (s.wt ++ []) })] = stC h ss (1) (1) (1) [(sesL (1) { s with pg := (s.pg ++ []), rd := (s.rd ++ []), wt := (s.wt ++ []) })] ∧ N (stC h ss (1) (1) (1) [(sesL (1) { s with pg := (s.pg ++ []), rd := (s.rd ++ []), wt := (s.wt ++ []) })]) else False else False else False) := by kernel_rfl
theorem rC1 (h : Mh) (ss : List SesD) (i : Int) (n m : Nat) (R : List (List D)) (N : X → Prop) (E : Exit → X → Prop) : (ZaX Tryz.prog (hkC [(47, ZcK)] [] [] []) Tryz.f19 0 [] [1, 2, 3, 4] [2, 3, 4, 9000, 9001, 9002, 9003, 28] (ZjT h ss) (fun _ => ZjT h ss) N E (stC h ss i n m R)) = (bif decide (i < @Nat.cast Int _ (List.length (List.map (sesL (0)) ss))) then bif decide (0 ≤ i) && decide (i < @Nat.cast Int _ (List.length (List.map (sesL (0)) ss))) then ∃ s, Ze2 (List.map (sesL (0)) ss) (Int.toNat i) (0) s ∧ bif smS s then n = List.length R ∧ bif decide ((n + 1) * 184 ≤ 140737488355328) && decide (n + 1 ≤ 9223372036854775807) then foAt n n (List.length (R ++ [[]])) ∧ whole (List.length s.pg) (s.pg ++ []) ∧ foAt n n (List.length (R ++ [[]])) ∧ whole (List.length s.rd) (s.rd ++ []) ∧ foAt n n (List.length (R ++ [[]])) ∧ whole (List.length s.wt) (s.wt ++ []) ∧ stC h ss (IntKind.wrap IntKind.i64 (i + 1)) (n + 1) (n + 1) (List.set (R ++ [[]]) n (sesL (1) { s with pg := (s.pg ++ []), rd := (s.rd ++ []), wt := (s.wt ++ []) })) = stC h ss (IntKind.wrap IntKind.i64 (i + 1)) (n + 1) (n + 1) (List.set (R ++ [[]]) n (sesL (1) { s with pg := (s.pg ++ []), rd := (s.rd ++ []), wt := (s.wt ++ []) })) ∧ N (stC h ss (IntKind.wrap IntKind.i64 (i + 1)) (n + 1) (n + 1) (List.set (R ++ [[]]) n (sesL (1) { s with pg := (s.pg ++ []), rd := (s.rd ++ []), wt := (s.wt ++ []) }))) else False else False else False else stC h ss i n m R = stC h ss i n m R ∧ E (Exit.exit (0)) (stC h ss i n m R)) := by kernel_rfl
def stCi (h : Mh) (ss : List SesD) (i : Nat) : X := match i with | 0 => stC0 h ss 0 | k + 1 => stC h ss ((k + 1 : Nat) : Int) (k + 1) (k + 1) ((ss.take (k + 1)).map (sesL 1))
def fC (h : Mh) (ss : List SesD) (n : Nat) (R : List (List D)) : LSum := fun Q x => wL x 9000 fun W0 => wL x 9001 fun W1 => wL x 9002 fun W2 => wL x 9003 fun W3 => W0 = h.w0 ∧ W1 = h.w1 ∧ W2 = h.w2 ∧ W3 = h.w3 ∧ x.arr [1, 2, 3, 4] [2, 3, 4, 9000, 9001, 9002, 9003, 28] = ZqX h ss 0 W0 W1 W2 W3 ∧ Q (.exit 0) (stC h ss (n : Nat) n n R)
theorem eC (h : Mh) (ss : List SesD) (n : Nat) (R : List (List D)) (K : DV → Prop) : (askW Tryz.prog (hkC [(46, ZbR), (47, ZcK)] [] [] [(5, fC h ss n R)]) Tryz.f19 [.agg (macL 0 h ss)] K) = (bif okC4 h.w0 h.w1 h.w2 h.w3 then h.w0 ++ [] = h.w0 ∧ h.w1 ++ [] = h.w1 ∧ h.w2 ++ [] = h.w2 ∧ h.w3 ++ [] = h.w3 ∧ ZqX h ss (0) (h.w0 ++ []) (h.w1 ++ []) (h.w2 ++ []) (h.w3 ++ []) = ZqX h ss (0) (h.w0 ++ []) (h.w1 ++ []) (h.w2 ++ []) (h.w3 ++ []) ∧ bif allV h.tr then bif true && (decide ((0 + List.length h.tr) * 32 ≤ 140737488355328) && decide (0 + List.length h.tr ≤ 9223372036854775807)) then whole (List.length h.w0) h.w0 ∧ whole (List.length h.w1) h.w1 ∧ whole (List.length h.w2) h.w2 ∧ whole (List.length h.w3) h.w3 ∧ whole n R ∧ whole (0 + List.length h.tr) ([] ++ h.tr) ∧ K (DV.agg (ZfQ (1) { h with tr := ([] ++ h.tr) } R)) else False else False else False) := by kernel_rfl
theorem ZcL {n : Nat} {R : List (List D)} (h : smR n R = true) : allK R = true := by
  obtain ⟨_, _, h⟩ := Zac h
  exact h
theorem ZaR {i j n : Nat} : foAt i j n ↔ i = j ∧ j < n := by simp [foAt]
theorem kCpM {h : Mh} {ss : List SesD} (h0 : ss ≠ []) (hs : ss.all smS = true) (hb : ss.length * 184 ≤ 140737488351232) (Q : Exit → X → Prop) (x : X) (hq : fC h ss ss.length (ss.map (sesL 1)) Q x) : XWP Tryz.prog (.loop (Zal Tryz.f19 0)) Q x := by
  unfold fC at hq
  obtain ⟨W0, hq⟩ := Zb8 hq
  obtain ⟨W1, hq⟩ := Zb8 hq
  obtain ⟨W2, hq⟩ := Zb8 hq
  obtain ⟨W3, rfl, rfl, rfl, rfl, hx, hq⟩ := Zb8 hq
  have q1 := List.all_eq_true.1 hs
  have hp : 0 < ss.length := List.length_pos_iff.2 h0
  have eN : stCi h ss ss.length = stC h ss ((ss.length : Nat) : Int) ss.length ss.length (ss.map (sesL 1)) := by
    cases hn : ss.length with
    | zero => omega
    | succ k =>
      show stC h ss ((k + 1 : Nat) : Int) (k + 1) (k + 1) (List.map (sesL 1) (List.take (k + 1) ss)) = _
      rw [List.take_of_length_le (by omega)]
  have hH : Zam Tryz.prog (hkC [(47, ZcK)] [] [] []) := Zh5 (.cons Ztz .nil) .nil .nil
  refine Zbq (sw := []) (V := ZjT h ss) (VE := fun _ => ZjT h ss) mixed (ZmE h ss) (fun _ => ZmE h ss) (stCi h ss) (stCi h ss) ss.length (fun _ => false) .ret (.exit 0) (fun i hi => ⟨_, hH, Zae rfl, fun N E _ q2 => ?_⟩) ⟨_, hH, Zae rfl, fun N E q2 => ?_⟩ Q x ⟨hx, fun i hf => by have := hf.2.1; simp at this, fun _ => by rw [eN]; exact hq⟩
  · have q2 := q2 rfl
    have hat : Ze2 (List.map (sesL 0) ss) i 0 (sesN ss i) := Zlp hi
    have hsm : smS (sesN ss i) = true := q1 _ (Zdb hi)
    obtain ⟨m1, m2, m3⟩ := ZaD hsm
    have w1 := ZaN (ZcL m1)
    have w2 := ZaN (ZcL m2)
    have w3 := ZaN (ZcL m3)
    have et : (ss.take (i + 1)).map (sesL 1) = (ss.take i).map (sesL 1) ++ [sesL 1 (sesN ss i)] := by
      rw [List.take_add_one, List.map_append]
      congr 1
      unfold sesN
      rw [List.getD_eq_getElem?_getD, List.getElem?_eq_getElem hi]
      rfl
    cases i with
    | zero =>
      show ZaX Tryz.prog _ _ _ _ _ _ _ _ _ _ (stC0 h ss 0)
      rw [rC0]
      have c0 : decide (0 < @Nat.cast Int _ (List.length (List.map (sesL 0) ss))) = true := by rw [List.length_map]; simp; omega
      simp only [c0, cond_true, Bool.and_self]
      refine ⟨_, hat, ?_⟩
      rw [hsm]
      simp only [cond_true, List.append_nil]
      refine ⟨ZaR.2 ⟨rfl, by decide⟩, w1, ZaR.2 ⟨rfl, by decide⟩, w2, ZaR.2 ⟨rfl, by decide⟩, w3, trivial, ?_⟩
      have q3 : N (stC h ss ((0 + 1 : Nat) : Int) (0 + 1) (0 + 1) ((ss.take (0 + 1)).map (sesL 1))) := q2
      rw [et] at q3
      exact q3
    | succ k =>
      show ZaX Tryz.prog _ _ _ _ _ _ _ _ _ _ (stC h ss ((k + 1 : Nat) : Int) (k + 1) (k + 1) ((ss.take (k + 1)).map (sesL 1)))
      rw [rC1]
      have wi : IntKind.wrap IntKind.i64 (((k + 1 : Nat) : Int) + 1) = ((k + 1 + 1 : Nat) : Int) := Zaj (n := 1) (by omega)
      have c0 : decide (((k + 1 : Nat) : Int) < @Nat.cast Int _ (List.length (List.map (sesL 0) ss))) = true := by rw [List.length_map]; simp; omega
      have c1 : decide (0 ≤ ((k + 1 : Nat) : Int)) = true := by simp; omega
      have el : (List.map (sesL 1) (List.take (k + 1) ss)).length = k + 1 := by rw [List.length_map, List.length_take]; omega
      have c2 : (decide ((k + 1 + 1) * 184 ≤ 140737488355328) && decide (k + 1 + 1 ≤ 9223372036854775807)) = true := by simp; omega
      simp only [c0, c1, cond_true, Bool.and_self]
      refine ⟨_, hat, ?_⟩
      rw [hsm]
      simp only [cond_true, List.append_nil]
      refine ⟨el.symm, ?_⟩
      rw [c2]
      have hl : k + 1 < (List.map (sesL 1) (List.take (k + 1) ss) ++ [[]]).length := by rw [List.length_append, el]; simp
      refine ⟨ZaR.2 ⟨rfl, hl⟩, w1, ZaR.2 ⟨rfl, hl⟩, w2, ZaR.2 ⟨rfl, hl⟩, w3, trivial, ?_⟩
      have es : List.set (List.map (sesL 1) (List.take (k + 1) ss) ++ [[]]) (k + 1) (sesL 1 (sesN ss (k + 1))) = (ss.take (k + 1 + 1)).map (sesL 1) := by
        rw [et, List.set_append_right _ _ (by omega), el, Nat.sub_self]; rfl
      show N (stC h ss (IntKind.wrap IntKind.i64 (((k + 1 : Nat) : Int) + 1)) (k + 1 + 1) (k + 1 + 1) (List.set (List.map (sesL 1) (List.take (k + 1) ss) ++ [[]]) (k + 1) (sesL 1 (sesN ss (k + 1)))))
      rw [wi, es]
      exact q2
  · rw [eN] at q2 ⊢
    rw [rC1]
    have c0 : decide (((ss.length : Nat) : Int) < @Nat.cast Int _ (List.length (List.map (sesL 0) ss))) = false := by rw [List.length_map]; simp
    simp only [c0, cond_false, true_and]
    exact q2
theorem ZuT (h : Mh) (ss : List SesD) (hm : smM h ss = true) (hb : ss.length * 184 ≤ 140737488351232) : CT Tryz.prog 19 [.agg (macL 0 h ss)] (.agg (macL 1 h ss)) := by
  cases h0 : ss with
  | nil =>
    subst h0
    have h4 := Zni hm
    obtain ⟨⟨a0, a1, a2, a3⟩, a4, a5⟩ := Zdc hm
    obtain ⟨_, _, b0⟩ := Zac a0
    obtain ⟨_, _, b1⟩ := Zac a1
    obtain ⟨_, _, b2⟩ := Zac a2
    obtain ⟨_, _, b3⟩ := Zac a3
    obtain ⟨t1, t2, t3, t4⟩ := Zjm a4
    refine ZsU (.cons ZrR (.cons Ztz .nil)) .nil .nil mixed Tryz.func19 rfl rfl rfl ?_
    rw [Zun]
    refine ⟨?_⟩
    simp only [kX, tC, tD]
    simp only [h4, b0, b1, b2, b3, t1, t2, t3, t4, Nat.zero_add, List.nil_append, List.append_nil, Nat.le_refl, decide_true, Bool.and_self, Bool.true_and, cond_true, ZbO, Nat.add_zero, Nat.sub_self, List.take_zero]
    exact .aggO (.cons (.refl _) (.cons (.refl _) (.cons (.refl _) (.cons (.refl _) (.cons (.refl _) (.cons (.refl _) (.cons (.refl _) (.cons (.refl _) (.cons (.refl _) (.cons (.nil 17) (.cons (.refl _) .nil)))))))))))
  | cons s l =>
    rw [← h0]
    have hne : ss ≠ [] := by rw [h0]; exact fun e => by cases e
    have h4 := Zni hm
    obtain ⟨⟨a0, a1, a2, a3⟩, a4, a5⟩ := Zdc hm
    have hs : ss.all smS = true := List.all_eq_true.2 a5
    obtain ⟨t1, t2, t3, t4⟩ := Zjm a4
    refine Zjd (.cons ZrR (.cons Ztz .nil)) .nil .nil mixed (m := [(5, fC h ss ss.length (ss.map (sesL 1)))]) (Zew (i := 0) (fun j hj _ => by have : j < 1 := hj; omega) (kCpM hne hs hb)) Tryz.func19 rfl rfl rfl ?_
    rw [eC]
    refine ⟨?_⟩
    simp only [h4, t1, t2, t3, t4, List.append_nil, Nat.zero_add, List.nil_append, Nat.le_refl, decide_true, Bool.and_self, Bool.true_and, cond_true, true_and, Nat.add_zero]
    exact ⟨ZaN (ZcL a0), ZaN (ZcL a1), ZaN (ZcL a2), ZaN (ZcL a3), by have := ZaN (ZiH ss); rwa [List.length_map] at this, ZaN (ZcL a4), AL.refl _⟩
def sesO (s : SesD) (p r w : List (List D)) : List D := [vN s.id, vN s.lb, vN s.cl, .s 1 4 s.pg p, vN s.st, vN s.pc, vN s.r0, vN s.r1, vN s.r2, vN s.r3, .s 1 3 s.rd r, .s 1 3 s.wt w, vN s.at', vN s.sp, vN s.tr, vN s.rs, vN s.to]
def spS (p p' r r' w w' : List (List D)) : Prop := okZ 4 (p ++ p') = true ∧ okZ 3 (r ++ r') = true ∧ okZ 3 (w ++ w') = true
def Zge : Spec := fun ds Q => match ds with
  | [.agg [.v (.int .i64 _), .v (.int .i64 _), .v (.int .i64 _), .s 1 4 p p', .v (.int .i64 _), .v (.int .i64 _), .v (.int .i64 _), .v (.int .i64 _), .v (.int .i64 _), .v (.int .i64 _), .s 1 3 r r', .s 1 3 w w', .v (.int .i64 _), .v (.int .i64 _), .v (.int .i64 _), .v (.int .i64 _), .v (.int .i64 _)]] => spS p p' r r' w w' ∧ Q (.tup [])
  | _ => False
theorem eSpS (s : SesD) (p r w : List (List D)) (K : DV → Prop) : (askH Tryz.prog (hkG [(125, Zep), (126, Zel), (127, ZdG)] [] fun _ => true) Tryz.f73 [.agg (sesO s p r w)] K) = (bif decide (List.length s.pg ≤ List.length (s.pg ++ p)) && List.all (s.pg ++ p) fun r => List.all r D.keeps then bif allV (s.pg ++ p) then bif okZ (4) (List.take (List.length s.pg) (s.pg ++ p) ++ List.take (List.length s.pg + List.length p - List.length s.pg) (List.drop (List.length s.pg) (s.pg ++ p))) then bif decide (List.length s.rd ≤ List.length (s.rd ++ r)) && List.all (s.rd ++ r) fun r => List.all r D.keeps then bif allV (s.rd ++ r) then bif okZ (3) (List.take (List.length s.rd) (s.rd ++ r) ++ List.take (List.length s.rd + List.length r - List.length s.rd) (List.drop (List.length s.rd) (s.rd ++ r))) then bif decide (List.length s.wt ≤ List.length (s.wt ++ w)) && List.all (s.wt ++ w) fun r => List.all r D.keeps then bif allV (s.wt ++ w) then bif okZ (3) (List.take (List.length s.wt) (s.wt ++ w) ++ List.take (List.length s.wt + List.length w - List.length s.wt) (List.drop (List.length s.wt) (s.wt ++ w))) then K (DV.tup []) else False else False else False else False else False else False else False else False else False) := by kernel_rfl
theorem Zv4 (h : Mh) (K : DV → Prop) : (askB Tryz.prog (hkG [(72, Zei), (73, Zge), (74, Zbu)] [] fun _ => true) Tryz.f28 [.agg (macL 1 h [])] K) = (bif kX h.w0 then bif kX h.w1 then bif kX h.w2 then bif kX h.w3 then bif aX h.w0 then bif aX h.w1 then bif aX h.w2 then bif aX h.w3 then bif okZ (3) (tC h.w0 ++ tD h.w0) && (okZ (3) (tC h.w1 ++ tD h.w1) && (okZ (3) (tC h.w2 ++ tD h.w2) && okZ (3) (tC h.w3 ++ tD h.w3))) then bif kX h.tr then bif aX h.tr then bif okZ (4) (tC h.tr ++ tD h.tr) then K (DV.tup []) else False else False else False else False else False else False else False else False else False else False else False else False) := by kernel_rfl
theorem Zv5 (h : Mh) (s0 : SesD) (K : DV → Prop) : (askB Tryz.prog (hkG [(72, Zei), (73, Zge), (74, Zbu)] [] fun _ => true) Tryz.f28 [.agg (macL 1 h [s0])] K) = (bif kX h.w0 then bif kX h.w1 then bif kX h.w2 then bif kX h.w3 then bif aX h.w0 then bif aX h.w1 then bif aX h.w2 then bif aX h.w3 then bif okZ (3) (tC h.w0 ++ tD h.w0) && (okZ (3) (tC h.w1 ++ tD h.w1) && (okZ (3) (tC h.w2 ++ tD h.w2) && okZ (3) (tC h.w3 ++ tD h.w3))) then bif kX s0.pg then bif kX s0.rd then bif kX s0.wt then bif aX s0.pg then bif aX s0.rd then bif aX s0.wt then spS (tC s0.pg) (tD s0.pg) (tC s0.rd) (tD s0.rd) (tC s0.wt) (tD s0.wt) ∧ bif kX h.tr then bif aX h.tr then bif okZ (4) (tC h.tr ++ tD h.tr) then K (DV.tup []) else False else False else False else False else False else False else False else False else False else False else False else False else False else False else False else False else False else False) := by kernel_rfl
theorem ZvK (h : Mh) (s0 s1 : SesD) (K : DV → Prop) : (askB Tryz.prog (hkG [(72, Zei), (73, Zge), (74, Zbu)] [] fun _ => true) Tryz.f28 [.agg (macL 1 h [s0, s1])] K) = (bif kX h.w0 then bif kX h.w1 then bif kX h.w2 then bif kX h.w3 then bif aX h.w0 then bif aX h.w1 then bif aX h.w2 then bif aX h.w3 then bif okZ (3) (tC h.w0 ++ tD h.w0) && (okZ (3) (tC h.w1 ++ tD h.w1) && (okZ (3) (tC h.w2 ++ tD h.w2) && okZ (3) (tC h.w3 ++ tD h.w3))) then bif kX s0.pg then bif kX s0.rd then bif kX s0.wt then bif aX s0.pg then bif aX s0.rd then bif aX s0.wt then spS (tC s0.pg) (tD s0.pg) (tC s0.rd) (tD s0.rd) (tC s0.wt) (tD s0.wt) ∧ bif kX s1.pg then bif kX s1.rd then bif kX s1.wt then bif aX s1.pg then bif aX s1.rd then bif aX s1.wt then spS (tC s1.pg) (tD s1.pg) (tC s1.rd) (tD s1.rd) (tC s1.wt) (tD s1.wt) ∧ bif kX h.tr then bif aX h.tr then bif okZ (4) (tC h.tr ++ tD h.tr) then K (DV.tup []) else False else False else False else False else False else False else False else False else False else False else False else False else False else False else False else False else False else False else False else False else False else False else False else False) := by kernel_rfl
theorem Zxg (h : Mh) (s0 s1 s2 : SesD) (K : DV → Prop) : (askB Tryz.prog (hkG [(72, Zei), (73, Zge), (74, Zbu)] [] fun _ => true) Tryz.f28 [.agg (macL 1 h [s0, s1, s2])] K) = (bif kX h.w0 then bif kX h.w1 then bif kX h.w2 then bif kX h.w3 then bif aX h.w0 then bif aX h.w1 then bif aX h.w2 then bif aX h.w3 then bif okZ (3) (tC h.w0 ++ tD h.w0) && (okZ (3) (tC h.w1 ++ tD h.w1) && (okZ (3) (tC h.w2 ++ tD h.w2) && okZ (3) (tC h.w3 ++ tD h.w3))) then bif kX s0.pg then bif kX s0.rd then bif kX s0.wt then bif aX s0.pg then bif aX s0.rd then bif aX s0.wt then spS (tC s0.pg) (tD s0.pg) (tC s0.rd) (tD s0.rd) (tC s0.wt) (tD s0.wt) ∧ bif kX s1.pg then bif kX s1.rd then bif kX s1.wt then bif aX s1.pg then bif aX s1.rd then bif aX s1.wt then spS (tC s1.pg) (tD s1.pg) (tC s1.rd) (tD s1.rd) (tC s1.wt) (tD s1.wt) ∧ bif kX s2.pg then bif kX s2.rd then bif kX s2.wt then bif aX s2.pg then bif aX s2.rd then bif aX s2.wt then spS (tC s2.pg) (tD s2.pg) (tC s2.rd) (tD s2.rd) (tC s2.wt) (tD s2.wt) ∧ bif kX h.tr then bif aX h.tr then bif okZ (4) (tC h.tr ++ tD h.tr) then K (DV.tup []) else False else False else False else False else False else False else False else False else False else False else False else False else False else False else False else False else False else False else False else False else False else False else False else False else False else False else False else False else False else False) := by kernel_rfl
theorem Zvy (h : Mh) (s0 s1 s2 s3 : SesD) (K : DV → Prop) : (askB Tryz.prog (hkG [(72, Zei), (73, Zge), (74, Zbu)] [] fun _ => true) Tryz.f28 [.agg (macL 1 h [s0, s1, s2, s3])] K) = (bif kX h.w0 then bif kX h.w1 then bif kX h.w2 then bif kX h.w3 then bif aX h.w0 then bif aX h.w1 then bif aX h.w2 then bif aX h.w3 then bif okZ (3) (tC h.w0 ++ tD h.w0) && (okZ (3) (tC h.w1 ++ tD h.w1) && (okZ (3) (tC h.w2 ++ tD h.w2) && okZ (3) (tC h.w3 ++ tD h.w3))) then bif kX s0.pg then bif kX s0.rd then bif kX s0.wt then bif aX s0.pg then bif aX s0.rd then bif aX s0.wt then spS (tC s0.pg) (tD s0.pg) (tC s0.rd) (tD s0.rd) (tC s0.wt) (tD s0.wt) ∧ bif kX s1.pg then bif kX s1.rd then bif kX s1.wt then bif aX s1.pg then bif aX s1.rd then bif aX s1.wt then spS (tC s1.pg) (tD s1.pg) (tC s1.rd) (tD s1.rd) (tC s1.wt) (tD s1.wt) ∧ bif kX s2.pg then bif kX s2.rd then bif kX s2.wt then bif aX s2.pg then bif aX s2.rd then bif aX s2.wt then spS (tC s2.pg) (tD s2.pg) (tC s2.rd) (tD s2.rd) (tC s2.wt) (tD s2.wt) ∧ bif kX s3.pg then bif kX s3.rd then bif kX s3.wt then bif aX s3.pg then bif aX s3.rd then bif aX s3.wt then spS (tC s3.pg) (tD s3.pg) (tC s3.rd) (tD s3.rd) (tC s3.wt) (tD s3.wt) ∧ bif kX h.tr then bif aX h.tr then bif okZ (4) (tC h.tr ++ tD h.tr) then K (DV.tup []) else False else False else False else False else False else False else False else False else False else False else False else False else False else False else False else False else False else False else False else False else False else False else False else False else False else False else False else False else False else False else False else False else False else False else False else False) := by kernel_rfl
theorem tkd (R p : List (List D)) : List.take R.length (R ++ p) ++ List.take (R.length + p.length - R.length) (List.drop R.length (R ++ p)) = R ++ p := by simp
theorem gSpS : Goes Tryz.prog 73 := Zaq Tryz.func73 (by kernel_rfl) rfl
theorem cSpS (s : SesD) (p r w : List (List D)) (hp : spS s.pg p s.rd r s.wt w) : CT Tryz.prog 73 [.agg (sesO s p r w)] (.tup []) := by
  obtain ⟨h1, h2, h3⟩ := hp
  refine Zu4 (Zpn (g := fun _ => true) (.cons ZlY (.cons ZlG (.cons Zku .nil))) .nil) mixed Zcl Tryz.func73 rfl rfl (by simp [DV.fit32, DV.width, sesO]) ?_
  rw [eSpS]
  refine ⟨?_⟩
  have le : ∀ R p : List (List D), decide (R.length ≤ (R ++ p).length) = true := fun R p => by simp
  simp only [tkd, le, h1, h2, h3, Zab h1, Zab h2, Zab h3, Zao (Zab h1), Zao (Zab h2), Zao (Zab h3), Bool.and_self, cond_true]
  exact AL.refl _
theorem oSpS : Zad Tryz.prog 73 Zge := fun ds Q q => by
  unfold Zge at q; split at q
  · rename_i a0 a1 a2 p p' a4 a5 b0 b1 b2 b3 r r' w w' c0 c1 c2 c3 c4
    exact ⟨gSpS, _, cSpS ⟨a0, a1, a2, p, a4, a5, b0, b1, b2, b3, r, w, c0, c1, c2, c3, c4⟩ p' r' w' q.1, .inl rfl, rfl, q.2⟩
  · exact q.elim
theorem cSpM (h : Mh) (ss : List SesD) (hok : okM h ss = true) (hl : ss.length ≤ 4) : CT Tryz.prog 28 [.agg (macL 1 h ss)] (.tup []) := by
  obtain ⟨g1, g2, g3⟩ := Zby hok
  obtain ⟨w0, w1, w2, w3⟩ := Zb1 g1
  have q := List.all_eq_true.1 g3
  have hH := Zpn (g := fun _ => true) (.cons ZsN (.cons oSpS (.cons ZkC .nil))) .nil
  rcases ss with _ | ⟨s0, _ | ⟨s1, _ | ⟨s2, _ | ⟨s3, _ | ⟨s4, l⟩⟩⟩⟩⟩
  · refine Zpb hH mixed Zcl Tryz.func28 rfl rfl ?_
    rw [Zv4]
    refine ⟨?_⟩
    simp only [tC_e, tD_e, List.append_nil, w0, kX_t (Zab w0), aX_t (Zab w0), w1, kX_t (Zab w1), aX_t (Zab w1), w2, kX_t (Zab w2), aX_t (Zab w2), w3, kX_t (Zab w3), aX_t (Zab w3), g2, kX_t (Zab g2), aX_t (Zab g2), Bool.and_self, cond_true]
    exact AL.refl _
  · have k0 := q s0 (by simp)
    obtain ⟨p0, r0, u0⟩ := ZbF k0
    refine Zpb hH mixed Zcl Tryz.func28 rfl rfl ?_
    rw [Zv5]
    refine ⟨?_⟩
    simp only [tC_e, tD_e, List.append_nil, w0, kX_t (Zab w0), aX_t (Zab w0), w1, kX_t (Zab w1), aX_t (Zab w1), w2, kX_t (Zab w2), aX_t (Zab w2), w3, kX_t (Zab w3), aX_t (Zab w3), g2, kX_t (Zab g2), aX_t (Zab g2), p0, kX_t (Zab p0), aX_t (Zab p0), r0, kX_t (Zab r0), aX_t (Zab r0), u0, kX_t (Zab u0), aX_t (Zab u0), Bool.and_self, cond_true, spS, and_self, true_and]
    exact AL.refl _
  · have k0 := q s0 (by simp)
    obtain ⟨p0, r0, u0⟩ := ZbF k0
    have k1 := q s1 (by simp)
    obtain ⟨p1, r1, u1⟩ := ZbF k1
    refine Zpb hH mixed Zcl Tryz.func28 rfl rfl ?_
    rw [ZvK]
    refine ⟨?_⟩
    simp only [tC_e, tD_e, List.append_nil, w0, kX_t (Zab w0), aX_t (Zab w0), w1, kX_t (Zab w1), aX_t (Zab w1), w2, kX_t (Zab w2), aX_t (Zab w2), w3, kX_t (Zab w3), aX_t (Zab w3), g2, kX_t (Zab g2), aX_t (Zab g2), p0, kX_t (Zab p0), aX_t (Zab p0), r0, kX_t (Zab r0), aX_t (Zab r0), u0, kX_t (Zab u0), aX_t (Zab u0), p1, kX_t (Zab p1), aX_t (Zab p1), r1, kX_t (Zab r1), aX_t (Zab r1), u1, kX_t (Zab u1), aX_t (Zab u1), Bool.and_self, cond_true, spS, and_self, true_and]
    exact AL.refl _
  · have k0 := q s0 (by simp)
    obtain ⟨p0, r0, u0⟩ := ZbF k0
    have k1 := q s1 (by simp)
    obtain ⟨p1, r1, u1⟩ := ZbF k1
    have k2 := q s2 (by simp)
    obtain ⟨p2, r2, u2⟩ := ZbF k2
    refine Zpb hH mixed Zcl Tryz.func28 rfl rfl ?_
    rw [Zxg]
    refine ⟨?_⟩
    simp only [tC_e, tD_e, List.append_nil, w0, kX_t (Zab w0), aX_t (Zab w0), w1, kX_t (Zab w1), aX_t (Zab w1), w2, kX_t (Zab w2), aX_t (Zab w2), w3, kX_t (Zab w3), aX_t (Zab w3), g2, kX_t (Zab g2), aX_t (Zab g2), p0, kX_t (Zab p0), aX_t (Zab p0), r0, kX_t (Zab r0), aX_t (Zab r0), u0, kX_t (Zab u0), aX_t (Zab u0), p1, kX_t (Zab p1), aX_t (Zab p1), r1, kX_t (Zab r1), aX_t (Zab r1), u1, kX_t (Zab u1), aX_t (Zab u1), p2, kX_t (Zab p2), aX_t (Zab p2), r2, kX_t (Zab r2), aX_t (Zab r2), u2, kX_t (Zab u2), aX_t (Zab u2), Bool.and_self, cond_true, spS, and_self, true_and]
    exact AL.refl _
  · have k0 := q s0 (by simp)
    obtain ⟨p0, r0, u0⟩ := ZbF k0
    have k1 := q s1 (by simp)
    obtain ⟨p1, r1, u1⟩ := ZbF k1
    have k2 := q s2 (by simp)
    obtain ⟨p2, r2, u2⟩ := ZbF k2
    have k3 := q s3 (by simp)
    obtain ⟨p3, r3, u3⟩ := ZbF k3
    refine Zpb hH mixed Zcl Tryz.func28 rfl rfl ?_
    rw [Zvy]
    refine ⟨?_⟩
    simp only [tC_e, tD_e, List.append_nil, w0, kX_t (Zab w0), aX_t (Zab w0), w1, kX_t (Zab w1), aX_t (Zab w1), w2, kX_t (Zab w2), aX_t (Zab w2), w3, kX_t (Zab w3), aX_t (Zab w3), g2, kX_t (Zab g2), aX_t (Zab g2), p0, kX_t (Zab p0), aX_t (Zab p0), r0, kX_t (Zab r0), aX_t (Zab r0), u0, kX_t (Zab u0), aX_t (Zab u0), p1, kX_t (Zab p1), aX_t (Zab p1), r1, kX_t (Zab r1), aX_t (Zab r1), u1, kX_t (Zab u1), aX_t (Zab u1), p2, kX_t (Zab p2), aX_t (Zab p2), r2, kX_t (Zab r2), aX_t (Zab r2), u2, kX_t (Zab u2), aX_t (Zab u2), p3, kX_t (Zab p3), aX_t (Zab p3), r3, kX_t (Zab r3), aX_t (Zab r3), u3, kX_t (Zab u3), aX_t (Zab u3), Bool.and_self, cond_true, spS, and_self, true_and]
    exact AL.refl _
  · simp at hl
end

section
open Go Go.Proofs
def sQt (s : SesD) : List D := [vN s.id, vN s.lb, vN s.cl, .s 0 4 (cC s.pg) (cD s.pg), vN s.st, vN s.pc, vN s.r0, vN s.r1, vN s.r2, vN s.r3, .s 0 3 (cC s.rd) (cD s.rd), .s 0 3 (cC s.wt) (cD s.wt), vN s.at', vN s.sp, vN s.tr, vN s.rs, vN s.to]
theorem ZvI (s : SesD) : sQt s = sesL 0 s := by simp only [sQt, cC_e, cD_e]; rfl
theorem ZvT (s : SesD) : sTt s = sesL 1 s := by simp only [sTt, tC_e, tD_e]; rfl
def ZjN (ds : List DV) : Prop := ∃ h ss, okM h ss = true ∧ ss.length ≤ 9223372036854775806 ∧ All2 AL ds [.agg (macL 0 h ss), .agg (macL 0 h ss)]
def ZuH : Spec := fun ds Q => ZjN ds ∧ Q (B true)
def spM (ds : List DV) : Prop := ∃ h ss, ss.length ≤ 4 ∧ okM h ss = true ∧ ds = [.agg (macL 1 h ss)]
def sSpM : Spec := fun ds Q => spM ds ∧ Q (.tup [])
theorem ZtG {R : List (List D)} {a b k v : Int} (h : okZ 4 R = true) (hl : R.length ≤ 512) : okZ 4 (R ++ [[vN a, vN b, vN k, vN v]]) = true := by
  unfold okZ at *
  rw [Bool.and_eq_true] at *
  refine ⟨?_, Nat.ble_eq_true_of_le (by simp; omega)⟩
  rw [List.all_append, h.1]; rfl
theorem Zrm {h : Mh} (ht : okZ 4 h.tr = true) (hl : h.tr.length ≤ 512) (a b k v : Int) : okZ 4 (ZuV h a b k v).tr = true := by
  show okZ 4 (bif decide ((h.tr.length : Int) < 512) then h.tr ++ [[vN a, vN b, vN k, vN v]] else h.tr) = true
  cases decide ((h.tr.length : Int) < 512)
  · exact ht
  · exact ZtG ht hl
theorem Zvs : Zad Tryz.prog 24 ZuH := o_al Tryz.func24 (by kernel_rfl) rfl fun ds Q q => by
  obtain ⟨⟨h, ss, ho, hl, ha⟩, q⟩ := q
  have := cSM h ss h ss ho ho hl
  rw [(Zra ho ho).2 ⟨rfl, rfl⟩] at this
  exact ⟨_, _, ha, this, rfl, rfl, q⟩
theorem oSpM : Zad Tryz.prog 28 sSpM := fun ds Q q => by
  obtain ⟨⟨h, ss, hl, ho, rfl⟩, q⟩ := q
  exact ⟨Zaq Tryz.func28 (by kernel_rfl) rfl, _, cSpM h ss ho hl, .inl rfl, rfl, q⟩
theorem Zuh {h : Mh} {ss : List SesD} (hm : smM h ss = true) (hb : ss.length * 184 ≤ 140737488351232) : Zad Tryz.prog 19 (sAtD [.agg (macL 0 h ss)] (.agg (macL 0 h ss))) :=
  oAtZ ZwB (ZuT h ss hm hb) (Zmj hm) (Zl3 (Zr1 h ss) rfl) rfl
theorem Zrd {R : List (List D)} {n : Nat} : cut R n 0 = [] := by simp [cut]
theorem Zq8 {R : List (List D)} : cut R 0 R.length = R := Ze6 rfl
theorem Zjs {h : Mh} {ss : List SesD} (ho : okM h ss = true) (hl : ss.length ≤ 9223372036854775806) : ZjN [.agg (macL 0 h ss), .agg (macL 0 h ss)] := ⟨h, ss, ho, hl, .cons (.refl _) (.cons (.refl _) .nil)⟩
theorem Zut {h : Mh} {ss : List SesD} (ho : okM h ss = true) (hl : ss.length ≤ 4) : spM [.agg (macL 1 h ss)] := ⟨h, ss, hl, ho, rfl⟩
end

section
open Go Go.Proofs
theorem Zoh {P : Program} {ι : Type} {fn : Func} {i : Nat} (sw : List (Nat × Nat)) {ts ks : List Nat} (hm : P.follows .mixedOrders = true) (St : ι → X) (inv : ι → Prop) (μ : ι → Nat) {Q : Exit → X → Prop} {x : X} (i0 : ι)
    (hr : ∀ p, inv p → ∃ (H : Hooks) (V : Vw) (VE : Exit → Vw), Zam P H ∧ Zaz P H (Zal fn i) ∧ VwOK V ∧ (∀ e, VwOK (VE e)) ∧ ZaX P H fn i sw ts ks V VE (fun y => ∃ p', μ p' < μ p ∧ inv p' ∧ y = St p') Q (St p)) (h0 : inv i0) (hx : x.arr ts ks = St i0) : XWP P (.loop (Zal fn i)) Q x := by
  refine Zgc ts ks (ZkR ts ks ?_)
  rw [hx]
  refine ZfW (ι := ι) (fun p y => inv p ∧ (y.rens sw).arr ts ks = St p ∨ inv p ∧ y = St p) μ i0 (.inr ⟨h0, rfl⟩) fun p y hy => ?_
  have key : XWP P (Zal fn i) (fun e y => match e with | .normal => ∃ p', μ p' < μ p ∧ (inv p' ∧ (y.rens sw).arr ts ks = St p' ∨ inv p' ∧ y = St p') | e => Q e (y.arr ts ks)) (St p) := by
    have hp : inv p := hy.elim And.left And.left
    obtain ⟨H, V, VE, hH, hl, hV, hVE, hr⟩ := hr p hp
    refine Zcc (Zbk hH hm 200 _ _ _ hl hr) fun e y he => ?_
    cases e with
    | normal => obtain ⟨p', h1, h2, h3⟩ := ZdD hV he; exact ⟨p', h1, .inl ⟨h2, h3⟩⟩
    | _ => exact ZdD (hVE _) he
  rcases hy with ⟨_, h⟩ | ⟨_, rfl⟩
  · exact Zmy sw (Zgc ts ks (by rw [h]; exact key))
  · exact key
theorem Zf5 {P : Program} {fn : Func} {k : Nat} {sw : List (Nat × Nat)} {ts ks : List Nat} (hm : P.follows .mixedOrders = true)
    (St Sr : Nat → X) (n : Nat) (bad : Nat → Bool) (r e : Exit)
    (hs : ∀ i, i < n → (∀ j, j < i → bad j = false) → ∃ (H : Hooks) (V : Vw) (VE : Exit → Vw), Zam P H ∧ Zaz P H (Zal fn k) ∧ VwOK V ∧ (∀ e, VwOK (VE e)) ∧ ∀ (N : X → Prop) (E : Exit → X → Prop), (bad i = true → E r (Sr i)) → (bad i = false → N (St (i + 1))) → ZaX P H fn k sw ts ks V VE N E (St i))
    (he : (∀ j, j < n → bad j = false) → ∃ (H : Hooks) (V : Vw) (VE : Exit → Vw), Zam P H ∧ Zaz P H (Zal fn k) ∧ VwOK V ∧ (∀ e, VwOK (VE e)) ∧ ∀ (N : X → Prop) (E : Exit → X → Prop), E e (St n) → ZaX P H fn k sw ts ks V VE N E (St n))
    (Q : Exit → X → Prop) (x : X) (h : Zde ts ks St Sr n bad r e Q x) : XWP P (.loop (Zal fn k)) Q x := by
  obtain ⟨h1, h2, h3⟩ := h
  refine Zoh (ι := Nat) sw hm St (fun i => i ≤ n ∧ ∀ j, j < i → bad j = false) (fun i => n - i) 0 (fun i hp => ?_) ⟨Nat.zero_le _, fun j hj => by omega⟩ h1
  obtain ⟨hi, hj⟩ := hp
  by_cases hl : i < n
  · obtain ⟨H, V, VE, c1, c2, c3, c4, c5⟩ := hs i hl hj
    refine ⟨H, V, VE, c1, c2, c3, c4, c5 _ _ (fun hb => h2 i ⟨hl, hb, hj⟩) (fun hb => ⟨i + 1, by omega, ⟨hl, fun j hji => ?_⟩, rfl⟩)⟩
    rcases Nat.lt_succ_iff_lt_or_eq.1 hji with hji | rfl
    · exact hj j hji
    · exact hb
  · have e : i = n := by omega
    subst e
    obtain ⟨H, V, VE, c1, c2, c3, c4, c5⟩ := he hj
    exact ⟨H, V, VE, c1, c2, c3, c4, c5 _ _ (h3 hj)⟩
end

section
open Go Go.Proofs
theorem ZtF {h : Mh} {ss : List SesD} {s : SesD} (hok : okM h ss = true) (hl : h.tr.length ≤ 512) (k v : Int) : okM (ZiZ h s k v) ss = true := by
  obtain ⟨a, b, c⟩ := Zby hok
  have e : okM (ZiZ h s k v) ss = (okA h.w0 h.w1 h.w2 h.w3 && (okZ 4 (ZuV h s.id s.lb k v).tr && okSS ss)) := rfl
  rw [e, a, Zrm b hl, c]; rfl
end

end Vm
