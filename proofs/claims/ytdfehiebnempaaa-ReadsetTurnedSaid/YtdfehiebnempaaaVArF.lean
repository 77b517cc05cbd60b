/- What the functions of this text do, told by an interpreter that is proved right (YtdfehiebnempaaaVA to VD). My own work. -/
import Derived.Test.YtdfehiebnempaaaVArE
import Derived.Test.YtdfehiebnempaaaVD
namespace Vm
open Go Go.Proofs
set_option linter.unusedSimpArgs false
set_option linter.unusedVariables false
set_option maxRecDepth 100000
/-! ### the same, without ways -/
def pO (b : Bool) (R : List (List D)) : List (List D) := bif b then R else []
def pe (b : Bool) : Int := bif b then 0 else 400
def gokA (a b c d : List (List Int)) (lv num : Int) : Bool := amay a b c d && thr a.length b.length c.length d.length lv num
def gA4 (a b c d : List (List Int)) (lv num : Int) : List Int := bif gokA a b c d lv num then wrd (selA lv a b c d) num else [0, 0, 0]
def pokA (a b c d : List (List Int)) (lv num x y z : Int) : Bool := gokA a b c d lv num && wmay x y z
def sGetB : Spec := fun ds Q => match ds with | [.agg [.s 0 3 R0 p0, .s 0 3 R1 p1, .s 0 3 R2 p2, .s 0 3 R3 p3], .c (.v (.int .i64 lv)), .c (.v (.int .i64 num))] => cond (okA R0 R1 R2 R3) (Q (.tup [dW (gA4 (toZ R0) (toZ R1) (toZ R2) (toZ R3) lv num), I (pe (gokA (toZ R0) (toZ R1) (toZ R2) (toZ R3) lv num))])) False | _ => False
def sPutB : Spec := fun ds Q => match ds with | [.agg [.s 0 3 R0 p0, .s 0 3 R1 p1, .s 0 3 R2 p2, .s 0 3 R3 p3], .c (.v (.int .i64 lv)), .c (.v (.int .i64 num)), .agg [.v (.int .i64 a), .v (.int .i64 b), .v (.int .i64 c)]] => cond (okA R0 R1 R2 R3 && okC4 R0 R1 R2 R3) (Q (.tup [dO (pO (pokA (toZ R0) (toZ R1) (toZ R2) (toZ R3) lv num a b c) (pt lv 0 num (w3 a b c) R0)) (pO (pokA (toZ R0) (toZ R1) (toZ R2) (toZ R3) lv num a b c) (pt lv 1 num (w3 a b c) R1)) (pO (pokA (toZ R0) (toZ R1) (toZ R2) (toZ R3) lv num a b c) (pt lv 2 num (w3 a b c) R2)) (pO (pokA (toZ R0) (toZ R1) (toZ R2) (toZ R3) lv num a b c) (pt lv 3 num (w3 a b c) R3)), I (pe (pokA (toZ R0) (toZ R1) (toZ R2) (toZ R3) lv num a b c))])) False | _ => False
def nokA (R0 R1 R2 R3 : List (List D)) : Bool := amay (toZ (mW R0)) (toZ (mW R1)) (toZ (mW R2)) (toZ (mW R3))
def sNewB : Spec := fun ds Q => match ds with | [.agg [.s 0 1 R0 p0, .s 0 1 R1 p1, .s 0 1 R2 p2, .s 0 1 R3 p3]] => cond (okV4 R0 R1 R2 R3) (Q (.tup [dO (pO (nokA R0 R1 R2 R3) (mW R0)) (pO (nokA R0 R1 R2 R3) (mW R1)) (pO (nokA R0 R1 R2 R3) (mW R2)) (pO (nokA R0 R1 R2 R3) (mW R3)), I (pe (nokA R0 R1 R2 R3))])) False | _ => False
theorem wk_nil4 (n : Int) : Wk (.tup [dNil, I n]) (.tup [dO [] [] [] [], I n]) :=
  .tup_cons (.agg_cons (.nil 3) (.agg_cons (.nil 3) (.agg_cons (.nil 3) (.agg_cons (.nil 3) .agg_nil)))) (.refl _)
theorem sGet_B {ds : List DV} {Q : DV → Prop} (h : sGetB ds Q) : sGet ds fun r => ∃ r', Wk r r' ∧ r'.pureOwn = true ∧ r'.fit32 = true ∧ Q r' := by
  unfold sGetB at h; split at h
  · obtain ⟨h1, h2⟩ := cond_P h
    unfold sGet
    simp only
    rw [h1, cond_true]
    unfold gotA
    unfold gA4 at h2
    rename_i R0 p0 R1 p1 R2 p2 R3 p3 lv num
    cases ha : amay (toZ R0) (toZ R1) (toZ R2) (toZ R3) with
    | false =>
      have hg : gokA (toZ R0) (toZ R1) (toZ R2) (toZ R3) lv num = false := by unfold gokA; rw [ha]; rfl
      rw [hg] at h2
      exact ⟨_, .refl _, rfl, rfl, h2⟩
    | true =>
      cases ht : thr (toZ R0).length (toZ R1).length (toZ R2).length (toZ R3).length lv num with
      | false =>
        have hg : gokA (toZ R0) (toZ R1) (toZ R2) (toZ R3) lv num = false := by unfold gokA; rw [ha, ht]; rfl
        rw [hg] at h2
        exact ⟨_, .refl _, rfl, rfl, h2⟩
      | true =>
        have hg : gokA (toZ R0) (toZ R1) (toZ R2) (toZ R3) lv num = true := by unfold gokA; rw [ha, ht]; rfl
        rw [hg] at h2
        exact ⟨_, .refl _, rfl, rfl, h2⟩
  · exact h.elim
theorem sPut_B {ds : List DV} {Q : DV → Prop} (h : sPutB ds Q) : sPut ds fun r => ∃ r', Wk r r' ∧ r'.pureOwn = true ∧ r'.fit32 = true ∧ Q r' := by
  unfold sPutB at h; split at h
  · obtain ⟨h1, h2⟩ := cond_P h
    rename_i R0 p0 R1 p1 R2 p2 R3 p3 lv num a b c
    have h1' := h1
    simp only [Bool.and_eq_true] at h1'
    obtain ⟨a0, a1, a2, a3⟩ := okA_spec h1'.1
    unfold sPut
    simp only
    rw [h1, cond_true]
    have hk : pokA (toZ R0) (toZ R1) (toZ R2) (toZ R3) lv num a b c = (amay (toZ R0) (toZ R1) (toZ R2) (toZ R3) && thr R0.length R1.length R2.length R3.length lv num && wmay a b c) := by
      unfold pokA gokA; simp only [toZ_len]
    rw [hk] at h2
    cases ha : amay (toZ R0) (toZ R1) (toZ R2) (toZ R3) with
    | false => rw [ha] at h2; exact ⟨_, wk_nil4 _, rfl, rfl, h2⟩
    | true =>
      cases ht : thr R0.length R1.length R2.length R3.length lv num with
      | false => rw [ha, ht] at h2; exact ⟨_, wk_nil4 _, rfl, rfl, h2⟩
      | true =>
        cases hw : wmay a b c with
        | false => rw [ha, ht, hw] at h2; exact ⟨_, wk_nil4 _, rfl, rfl, h2⟩
        | true =>
          rw [ha, ht, hw] at h2
          exact ⟨_, .refl _, pure_put (okA_pt a0 _ _ _ _ _ _) (okA_pt a1 _ _ _ _ _ _) (okA_pt a2 _ _ _ _ _ _) (okA_pt a3 _ _ _ _ _ _) _, rfl, h2⟩
  · exact h.elim
theorem sNew_B {ds : List DV} {Q : DV → Prop} (h : sNewB ds Q) : sNew ds fun r => ∃ r', Wk r r' ∧ r'.pureOwn = true ∧ r'.fit32 = true ∧ Q r' := by
  unfold sNewB at h; split at h
  · obtain ⟨h1, h2⟩ := cond_P h
    rename_i R0 p0 R1 p1 R2 p2 R3 p3
    obtain ⟨⟨a0, _⟩, ⟨a1, _⟩, ⟨a2, _⟩, ⟨a3, _⟩⟩ := okV4_spec h1
    unfold sNew
    simp only
    rw [h1, cond_true]
    cases ha : amay (toZ (mW R0)) (toZ (mW R1)) (toZ (mW R2)) (toZ (mW R3)) with
    | false =>
      have : nokA R0 R1 R2 R3 = false := ha
      rw [this] at h2; exact ⟨_, wk_nil4 _, rfl, rfl, h2⟩
    | true =>
      have : nokA R0 R1 R2 R3 = true := ha
      rw [this] at h2
      exact ⟨_, .refl _, pure_put (okZ_mW a0) (okZ_mW a1) (okZ_mW a2) (okZ_mW a3) _, rfl, h2⟩
  · exact h.elim
theorem oGetB : SpecOK Try.prog 22 sGetB := spec_wk oGet fun _ _ => sGet_B
theorem oRGetB : SpecOK Try.prog 23 sGetB := spec_wk oRGet fun _ _ => sGet_B
theorem oPutB : SpecOK Try.prog 24 sPutB := spec_wk oPut fun _ _ => sPut_B
theorem oRPutB : SpecOK Try.prog 25 sPutB := spec_wk oRPut fun _ _ => sPut_B
theorem oNewB : SpecOK Try.prog 20 sNewB := spec_wk oNew fun _ _ => sNew_B
theorem oRNewB : SpecOK Try.prog 21 sNewB := spec_wk oRNew fun _ _ => sNew_B
def sT : Spec := fun ds Q => match ds with | [] => Q (B true) | _ => False
theorem eAw (K : DV → Prop) : (ask Try.prog [(20, sNewB), (22, sGetB), (24, sPutB), (27, sI), (28, sAMay)] Try.f31 [] K) = (K (DV.c (D.v (Value.bool true)))) := by kernel_rfl
theorem oAw : SpecOK Try.prog 31 sT := o_of Try.func31 (by kernel_rfl) rfl fun ds Q h => by
  unfold sT at h; split at h
  · exact ⟨_, ct_ask (.cons oNewB (.cons oGetB (.cons oPutB (.cons oNum (.cons oAMay .nil))))) mixed Try.func31 rfl rfl rfl (by rw [eAw]), rfl, rfl, h⟩
  · exact h.elim
/-! ### what they answer, by its facts -/
def getR (R0 R1 R2 R3 : List (List D)) (lv num g0 g1 g2 e : Int) : Prop := [g0, g1, g2] = (gA4 (toZ R0) (toZ R1) (toZ R2) (toZ R3) lv num ++ [0, 0, 0]).take 3 ∧ e = pe (gokA (toZ R0) (toZ R1) (toZ R2) (toZ R3) lv num)
def putR (R0 R1 R2 R3 : List (List D)) (lv num a b c : Int) (P0 P1 P2 P3 : List (List D)) (e : Int) : Prop :=
  P0 = pO (pokA (toZ R0) (toZ R1) (toZ R2) (toZ R3) lv num a b c) (pt lv 0 num (w3 a b c) R0) ∧ P1 = pO (pokA (toZ R0) (toZ R1) (toZ R2) (toZ R3) lv num a b c) (pt lv 1 num (w3 a b c) R1) ∧ P2 = pO (pokA (toZ R0) (toZ R1) (toZ R2) (toZ R3) lv num a b c) (pt lv 2 num (w3 a b c) R2) ∧ P3 = pO (pokA (toZ R0) (toZ R1) (toZ R2) (toZ R3) lv num a b c) (pt lv 3 num (w3 a b c) R3) ∧ e = pe (pokA (toZ R0) (toZ R1) (toZ R2) (toZ R3) lv num a b c)
def newR (V0 V1 V2 V3 P0 P1 P2 P3 : List (List D)) (e : Int) : Prop := P0 = pO (nokA V0 V1 V2 V3) (mW V0) ∧ P1 = pO (nokA V0 V1 V2 V3) (mW V1) ∧ P2 = pO (nokA V0 V1 V2 V3) (mW V2) ∧ P3 = pO (nokA V0 V1 V2 V3) (mW V3) ∧ e = pe (nokA V0 V1 V2 V3)
def sGetC : Spec := fun ds Q => match ds with | [.agg [.s 0 3 R0 p0, .s 0 3 R1 p1, .s 0 3 R2 p2, .s 0 3 R3 p3], .c (.v (.int .i64 lv)), .c (.v (.int .i64 num))] => cond (okA R0 R1 R2 R3) (∀ g0 g1 g2 e : Int, getR R0 R1 R2 R3 lv num g0 g1 g2 e → Q (.tup [.agg [vi g0, vi g1, vi g2], I e])) False | _ => False
def sPutC : Spec := fun ds Q => match ds with | [.agg [.s 0 3 R0 p0, .s 0 3 R1 p1, .s 0 3 R2 p2, .s 0 3 R3 p3], .c (.v (.int .i64 lv)), .c (.v (.int .i64 num)), .agg [.v (.int .i64 a), .v (.int .i64 b), .v (.int .i64 c)]] => cond (okA R0 R1 R2 R3 && okC4 R0 R1 R2 R3) (∀ (P0 P1 P2 P3 : List (List D)) (e : Int), putR R0 R1 R2 R3 lv num a b c P0 P1 P2 P3 e → Q (.tup [dO P0 P1 P2 P3, I e])) False | _ => False
def sNewC : Spec := fun ds Q => match ds with | [.agg [.s 0 1 R0 p0, .s 0 1 R1 p1, .s 0 1 R2 p2, .s 0 1 R3 p3]] => cond (okV4 R0 R1 R2 R3) (∀ (P0 P1 P2 P3 : List (List D)) (e : Int), newR R0 R1 R2 R3 P0 P1 P2 P3 e → Q (.tup [dO P0 P1 P2 P3, I e])) False | _ => False
theorem spec_le {P : Program} {f : FuncId} {s s' : Spec} (h : SpecOK P f s) (hs : ∀ ds Q, s' ds Q → s ds Q) : SpecOK P f s' := fun ds Q hq => h ds Q (hs ds Q hq)
theorem wrd_3 {a b c d : List (List Int)} (ha : wid 3 a) (hb : wid 3 b) (hc : wid 3 c) (hd : wid 3 d) (lv num : Int) : (gA4 a b c d lv num).length = 3 := by
  unfold gA4
  cases hg : gokA a b c d lv num with
  | false => rfl
  | true =>
    simp only [gokA, Bool.and_eq_true] at hg
    obtain ⟨i, rfl, hi⟩ := thr_spec hg.2
    simp only [cond_true, wrd, Int.toNat_natCast]
    rcases hi with ⟨rfl, hi⟩ | ⟨rfl, hi⟩ | ⟨rfl, hi⟩ | ⟨rfl, hi⟩
    · exact wid_get ha hi
    · exact wid_get hb hi
    · exact wid_get hc hi
    · exact wid_get hd hi
theorem sGet_C {ds : List DV} {Q : DV → Prop} (h : sGetC ds Q) : sGetB ds Q := by
  unfold sGetC at h; split at h
  · obtain ⟨h1, h2⟩ := cond_P h
    unfold sGetB; simp only
    rw [h1, cond_true]
    obtain ⟨a0, a1, a2, a3⟩ := okA_spec h1
    refine h2 _ _ _ _ ⟨?_, rfl⟩
    have hl := wrd_3 (okZ_spec a0).2.1 (okZ_spec a1).2.1 (okZ_spec a2).2.1 (okZ_spec a3).2.1
    rename_i lv num
    have := hl lv num
    revert this
    generalize gA4 _ _ _ _ lv num = g
    intro this
    match g, this with
    | [x, y, z], _ => rfl
  · exact h.elim
theorem sPut_C {ds : List DV} {Q : DV → Prop} (h : sPutC ds Q) : sPutB ds Q := by
  unfold sPutC at h; split at h
  · obtain ⟨h1, h2⟩ := cond_P h
    unfold sPutB; simp only
    rw [h1, cond_true]
    exact h2 _ _ _ _ _ ⟨rfl, rfl, rfl, rfl, rfl⟩
  · exact h.elim
theorem sNew_C {ds : List DV} {Q : DV → Prop} (h : sNewC ds Q) : sNewB ds Q := by
  unfold sNewC at h; split at h
  · obtain ⟨h1, h2⟩ := cond_P h
    unfold sNewB; simp only
    rw [h1, cond_true]
    exact h2 _ _ _ _ _ ⟨rfl, rfl, rfl, rfl, rfl⟩
  · exact h.elim
theorem oGetC : SpecOK Try.prog 22 sGetC := spec_le oGetB fun _ _ => sGet_C
theorem oRGetC : SpecOK Try.prog 23 sGetC := spec_le oRGetB fun _ _ => sGet_C
theorem oPutC : SpecOK Try.prog 24 sPutC := spec_le oPutB fun _ _ => sPut_C
theorem oRPutC : SpecOK Try.prog 25 sPutC := spec_le oRPutB fun _ _ => sPut_C
theorem oNewC : SpecOK Try.prog 20 sNewC := spec_le oNewB fun _ _ => sNew_C
theorem oRNewC : SpecOK Try.prog 21 sNewC := spec_le oRNewB fun _ _ => sNew_C
def gL (l : List (FuncId × Spec)) : Hooks := { hkA band bor l [] with give := fun f => Nat.beq f 30 }
def askL4 (l : List (FuncId × Spec)) (fn : Func) (args : List DV) (K : DV → Prop) : Prop := evp Try.prog (gL l) 200 (bodyOf fn) (finX Try.prog fn K) (entryX fn.ntmps args)
theorem e3 (R0 p0 R1 p1 R2 p2 R3 p3 V0 q0 V1 q1 V2 q2 V3 q3 : List (List D)) (lv num a b c : Int) (K : DV → Prop) : (askL4 [(19, sACopy), (20, sNewC), (21, sNewC), (22, sGetC), (23, sGetC), (24, sPutC), (25, sPutC), (26, sSameA), (27, sI), (28, sAMay), (29, sAMay), (30, sSpoilA), (31, sT)] Try.f3 [dA R0 p0 R1 p1 R2 p2 R3 p3, dV V0 q0 V1 q1 V2 q2 V3 q3, I lv, I num, .agg [vi a, vi b, vi c]] K) = (bif okC4 R0 R1 R2 R3 then bif okV4 V0 V1 V2 V3 then ∀ (P0 P1 P2 P3 : List (List D)) (e : Int), newR V0 V1 V2 V3 P0 P1 P2 P3 e → bif okV4 V0 V1 V2 V3 then ∀ (P0_1 P1_1 P2_1 P3_1 : List (List D)) (e_1 : Int), newR V0 V1 V2 V3 P0_1 P1_1 P2_1 P3_1 e_1 → bif decide (0 + List.length R0 ≤ List.length (R0 ++ [])) then bif decide (0 + List.length R1 ≤ List.length (R1 ++ [])) then bif decide (0 + List.length R2 ≤ List.length (R2 ++ [])) then bif decide (0 + List.length R3 ≤ List.length (R3 ++ [])) then bif okA (cut (R0 ++ []) (0) (List.length R0)) (cut (R1 ++ []) (0) (List.length R1)) (cut (R2 ++ []) (0) (List.length R2)) (cut (R3 ++ []) (0) (List.length R3)) then ∀ (g0 g1 g2 e_2 : Int), getR (cut (R0 ++ []) (0) (List.length R0)) (cut (R1 ++ []) (0) (List.length R1)) (cut (R2 ++ []) (0) (List.length R2)) (cut (R3 ++ []) (0) (List.length R3)) lv num g0 g1 g2 e_2 → bif okA R0 R1 R2 R3 then ∀ (g0_1 g1_1 g2_1 e_3 : Int), getR R0 R1 R2 R3 lv num g0_1 g1_1 g2_1 e_3 → bif decide (0 + List.length R0 ≤ List.length (R0 ++ [])) then bif decide (0 + List.length R1 ≤ List.length (R1 ++ [])) then bif decide (0 + List.length R2 ≤ List.length (R2 ++ [])) then bif decide (0 + List.length R3 ≤ List.length (R3 ++ [])) then bif okA (cut (R0 ++ []) (0) (List.length R0)) (cut (R1 ++ []) (0) (List.length R1)) (cut (R2 ++ []) (0) (List.length R2)) (cut (R3 ++ []) (0) (List.length R3)) && okC4 (cut (R0 ++ []) (0) (List.length R0)) (cut (R1 ++ []) (0) (List.length R1)) (cut (R2 ++ []) (0) (List.length R2)) (cut (R3 ++ []) (0) (List.length R3)) then ∀ (P0_2 P1_2 P2_2 P3_2 : List (List D)) (e_4 : Int), putR (cut (R0 ++ []) (0) (List.length R0)) (cut (R1 ++ []) (0) (List.length R1)) (cut (R2 ++ []) (0) (List.length R2)) (cut (R3 ++ []) (0) (List.length R3)) lv num a b c P0_2 P1_2 P2_2 P3_2 e_4 → bif okA R0 R1 R2 R3 && okC4 R0 R1 R2 R3 then ∀ (P0_3 P1_3 P2_3 P3_3 : List (List D)) (e_5 : Int), putR R0 R1 R2 R3 lv num a b c P0_3 P1_3 P2_3 P3_3 e_5 → bif decide (0 + List.length P0 ≤ List.length (P0 ++ [])) then bif decide (0 + List.length P1 ≤ List.length (P1 ++ [])) then bif decide (0 + List.length P2 ≤ List.length (P2 ++ [])) then bif decide (0 + List.length P3 ≤ List.length (P3 ++ [])) then bif decide (0 + List.length P0_1 ≤ List.length (P0_1 ++ [])) then bif decide (0 + List.length P1_1 ≤ List.length (P1_1 ++ [])) then bif decide (0 + List.length P2_1 ≤ List.length (P2_1 ++ [])) then bif decide (0 + List.length P3_1 ≤ List.length (P3_1 ++ [])) then bif okA (cut (P0 ++ []) (0) (List.length P0)) (cut (P1 ++ []) (0) (List.length P1)) (cut (P2 ++ []) (0) (List.length P2)) (cut (P3 ++ []) (0) (List.length P3)) && okA (cut (P0_1 ++ []) (0) (List.length P0_1)) (cut (P1_1 ++ []) (0) (List.length P1_1)) (cut (P2_1 ++ []) (0) (List.length P2_1)) (cut (P3_1 ++ []) (0) (List.length P3_1)) then bif !(decide (toZ (cut (P0 ++ []) (0) (List.length P0)) = toZ (cut (P0_1 ++ []) (0) (List.length P0_1))) && (decide (toZ (cut (P1 ++ []) (0) (List.length P1)) = toZ (cut (P1_1 ++ []) (0) (List.length P1_1))) && (decide (toZ (cut (P2 ++ []) (0) (List.length P2)) = toZ (cut (P2_1 ++ []) (0) (List.length P2_1))) && decide (toZ (cut (P3 ++ []) (0) (List.length P3)) = toZ (cut (P3_1 ++ []) (0) (List.length P3_1)))))) then K (DV.c (D.v (Value.bool false))) else bif e != e_1 then K (DV.c (D.v (Value.bool false))) else bif !eqI [g0, g1, g2] [g0_1, g1_1, g2_1] then K (DV.c (D.v (Value.bool false))) else bif e_2 != e_3 then K (DV.c (D.v (Value.bool false))) else bif decide (0 + List.length P0_2 ≤ List.length (P0_2 ++ [])) then bif decide (0 + List.length P1_2 ≤ List.length (P1_2 ++ [])) then bif decide (0 + List.length P2_2 ≤ List.length (P2_2 ++ [])) then bif decide (0 + List.length P3_2 ≤ List.length (P3_2 ++ [])) then bif decide (0 + List.length P0_3 ≤ List.length (P0_3 ++ [])) then bif decide (0 + List.length P1_3 ≤ List.length (P1_3 ++ [])) then bif decide (0 + List.length P2_3 ≤ List.length (P2_3 ++ [])) then bif decide (0 + List.length P3_3 ≤ List.length (P3_3 ++ [])) then bif okA (cut (P0_2 ++ []) (0) (List.length P0_2)) (cut (P1_2 ++ []) (0) (List.length P1_2)) (cut (P2_2 ++ []) (0) (List.length P2_2)) (cut (P3_2 ++ []) (0) (List.length P3_2)) && okA (cut (P0_3 ++ []) (0) (List.length P0_3)) (cut (P1_3 ++ []) (0) (List.length P1_3)) (cut (P2_3 ++ []) (0) (List.length P2_3)) (cut (P3_3 ++ []) (0) (List.length P3_3)) then bif !(decide (toZ (cut (P0_2 ++ []) (0) (List.length P0_2)) = toZ (cut (P0_3 ++ []) (0) (List.length P0_3))) && (decide (toZ (cut (P1_2 ++ []) (0) (List.length P1_2)) = toZ (cut (P1_3 ++ []) (0) (List.length P1_3))) && (decide (toZ (cut (P2_2 ++ []) (0) (List.length P2_2)) = toZ (cut (P2_3 ++ []) (0) (List.length P2_3))) && decide (toZ (cut (P3_2 ++ []) (0) (List.length P3_2)) = toZ (cut (P3_3 ++ []) (0) (List.length P3_3)))))) then K (DV.c (D.v (Value.bool false))) else bif e_4 != e_5 then K (DV.c (D.v (Value.bool false))) else bif decide (0 + List.length R0 ≤ List.length (R0 ++ [])) then bif decide (0 + List.length R1 ≤ List.length (R1 ++ [])) then bif decide (0 + List.length R2 ≤ List.length (R2 ++ [])) then bif decide (0 + List.length R3 ≤ List.length (R3 ++ [])) then bif okA (cut (R0 ++ []) (0) (List.length R0)) (cut (R1 ++ []) (0) (List.length R1)) (cut (R2 ++ []) (0) (List.length R2)) (cut (R3 ++ []) (0) (List.length R3)) then bif okA R0 R1 R2 R3 then bif !amay (toZ (cut (R0 ++ []) (0) (List.length R0))) (toZ (cut (R1 ++ []) (0) (List.length R1))) (toZ (cut (R2 ++ []) (0) (List.length R2))) (toZ (cut (R3 ++ []) (0) (List.length R3))) == amay (toZ R0) (toZ R1) (toZ R2) (toZ R3) then K (DV.c (D.v (Value.bool false))) else bif decide (List.length P0 ≤ List.length (P0 ++ [])) && List.all (P0 ++ []) fun r => List.all r D.keeps then bif decide (List.length P1 ≤ List.length (P1 ++ [])) && List.all (P1 ++ []) fun r => List.all r D.keeps then bif decide (List.length P2 ≤ List.length (P2 ++ [])) && List.all (P2 ++ []) fun r => List.all r D.keeps then bif decide (List.length P3 ≤ List.length (P3 ++ [])) && List.all (P3 ++ []) fun r => List.all r D.keeps then bif allV (P0 ++ []) then bif allV (P1 ++ []) then bif allV (P2 ++ []) then bif allV (P3 ++ []) then bif okZ (3) (List.take (List.length P0) (P0 ++ []) ++ List.take (List.length P0 + 0 - List.length P0) (List.drop (List.length P0) (P0 ++ []))) && (okZ (3) (List.take (List.length P1) (P1 ++ []) ++ List.take (List.length P1 + 0 - List.length P1) (List.drop (List.length P1) (P1 ++ []))) && (okZ (3) (List.take (List.length P2) (P2 ++ []) ++ List.take (List.length P2 + 0 - List.length P2) (List.drop (List.length P2) (P2 ++ []))) && okZ (3) (List.take (List.length P3) (P3 ++ []) ++ List.take (List.length P3 + 0 - List.length P3) (List.drop (List.length P3) (P3 ++ []))))) then bif decide (List.length P0_2 ≤ List.length (P0_2 ++ [])) && List.all (P0_2 ++ []) fun r => List.all r D.keeps then bif decide (List.length P1_2 ≤ List.length (P1_2 ++ [])) && List.all (P1_2 ++ []) fun r => List.all r D.keeps then bif decide (List.length P2_2 ≤ List.length (P2_2 ++ [])) && List.all (P2_2 ++ []) fun r => List.all r D.keeps then bif decide (List.length P3_2 ≤ List.length (P3_2 ++ [])) && List.all (P3_2 ++ []) fun r => List.all r D.keeps then bif allV (P0_2 ++ []) then bif allV (P1_2 ++ []) then bif allV (P2_2 ++ []) then bif allV (P3_2 ++ []) then bif okZ (3) (List.take (List.length P0_2) (P0_2 ++ []) ++ List.take (List.length P0_2 + 0 - List.length P0_2) (List.drop (List.length P0_2) (P0_2 ++ []))) && (okZ (3) (List.take (List.length P1_2) (P1_2 ++ []) ++ List.take (List.length P1_2 + 0 - List.length P1_2) (List.drop (List.length P1_2) (P1_2 ++ []))) && (okZ (3) (List.take (List.length P2_2) (P2_2 ++ []) ++ List.take (List.length P2_2 + 0 - List.length P2_2) (List.drop (List.length P2_2) (P2_2 ++ []))) && okZ (3) (List.take (List.length P3_2) (P3_2 ++ []) ++ List.take (List.length P3_2 + 0 - List.length P3_2) (List.drop (List.length P3_2) (P3_2 ++ []))))) then bif decide (0 + List.length R0 ≤ List.length (R0 ++ [])) then bif decide (0 + List.length R1 ≤ List.length (R1 ++ [])) then bif decide (0 + List.length R2 ≤ List.length (R2 ++ [])) then bif decide (0 + List.length R3 ≤ List.length (R3 ++ [])) then bif okA (cut (R0 ++ []) (0) (List.length R0)) (cut (R1 ++ []) (0) (List.length R1)) (cut (R2 ++ []) (0) (List.length R2)) (cut (R3 ++ []) (0) (List.length R3)) && okA R0 R1 R2 R3 then bif decide (toZ (cut (R0 ++ []) (0) (List.length R0)) = toZ R0) && (decide (toZ (cut (R1 ++ []) (0) (List.length R1)) = toZ R1) && (decide (toZ (cut (R2 ++ []) (0) (List.length R2)) = toZ R2) && decide (toZ (cut (R3 ++ []) (0) (List.length R3)) = toZ R3))) then K (DV.c (D.v (Value.bool true))) else K (DV.c (D.v (Value.bool false))) else False else False else False else False else False else False else False else False else False else False else False else False else False else False else False else False else False else False else False else False else False else False else False else False else False else False else False else False else False else False else False else False else False else False else False else False else False else False else False else False else False else False else False else False else False else False else False else False else False else False else False else False else False else False else False else False else False else False else False else False else False else False) := by kernel_rfl
theorem e4 (R0 p0 R1 p1 R2 p2 R3 p3 : List (List D)) (lv num a b c g i : Int) (K : DV → Prop) : (askL4 [(22, sGetC), (24, sPutC), (26, sSameA), (27, sI), (31, sT)] Try.f4 [dA R0 p0 R1 p1 R2 p2 R3 p3, I lv, I num, .agg [vi a, vi b, vi c], I g, I i] K) = (bif okA R0 R1 R2 R3 && okC4 R0 R1 R2 R3 then ∀ (P0 P1 P2 P3 : List (List D)) (e : Int), putR R0 R1 R2 R3 lv num a b c P0 P1 P2 P3 e → bif e != 0 then bif decide (0 + List.length P0 ≤ List.length (P0 ++ [])) then bif decide (0 + List.length P1 ≤ List.length (P1 ++ [])) then bif decide (0 + List.length P2 ≤ List.length (P2 ++ [])) then bif decide (0 + List.length P3 ≤ List.length (P3 ++ [])) then bif okA (cut (P0 ++ []) (0) (List.length P0)) (cut (P1 ++ []) (0) (List.length P1)) (cut (P2 ++ []) (0) (List.length P2)) (cut (P3 ++ []) (0) (List.length P3)) && true then K (DV.c (D.v (Value.bool (decide (toZ (cut (P0 ++ []) (0) (List.length P0)) = toZ []) && (decide (toZ (cut (P1 ++ []) (0) (List.length P1)) = toZ []) && (decide (toZ (cut (P2 ++ []) (0) (List.length P2)) = toZ []) && decide (toZ (cut (P3 ++ []) (0) (List.length P3)) = toZ []))))))) else False else False else False else False else False else bif decide (0 + List.length P0 ≤ List.length (P0 ++ [])) then bif decide (0 + List.length P1 ≤ List.length (P1 ++ [])) then bif decide (0 + List.length P2 ≤ List.length (P2 ++ [])) then bif decide (0 + List.length P3 ≤ List.length (P3 ++ [])) then bif okA (cut (P0 ++ []) (0) (List.length P0)) (cut (P1 ++ []) (0) (List.length P1)) (cut (P2 ++ []) (0) (List.length P2)) (cut (P3 ++ []) (0) (List.length P3)) then ∀ (g0 g1 g2 e : Int), getR (cut (P0 ++ []) (0) (List.length P0)) (cut (P1 ++ []) (0) (List.length P1)) (cut (P2 ++ []) (0) (List.length P2)) (cut (P3 ++ []) (0) (List.length P3)) lv num g0 g1 g2 e → bif decide (0 + List.length P0 ≤ List.length (P0 ++ [])) then bif decide (0 + List.length P1 ≤ List.length (P1 ++ [])) then bif decide (0 + List.length P2 ≤ List.length (P2 ++ [])) then bif decide (0 + List.length P3 ≤ List.length (P3 ++ [])) then bif okA (cut (P0 ++ []) (0) (List.length P0)) (cut (P1 ++ []) (0) (List.length P1)) (cut (P2 ++ []) (0) (List.length P2)) (cut (P3 ++ []) (0) (List.length P3)) then ∀ (g0_1 g1_1 g2_1 e_1 : Int), getR (cut (P0 ++ []) (0) (List.length P0)) (cut (P1 ++ []) (0) (List.length P1)) (cut (P2 ++ []) (0) (List.length P2)) (cut (P3 ++ []) (0) (List.length P3)) g i g0_1 g1_1 g2_1 e_1 → bif okA R0 R1 R2 R3 then ∀ (g0_2 g1_2 g2_2 e_2 : Int), getR R0 R1 R2 R3 g i g0_2 g1_2 g2_2 e_2 → bif e == 0 then bif eqI [g0, g1, g2] [a, b, c] then bif e_1 == e_2 then bif g == lv then bif i == num then K (DV.c (D.v (Value.bool true))) else K (DV.c (D.v (Value.bool (eqI [g0_1, g1_1, g2_1] [g0_2, g1_2, g2_2])))) else K (DV.c (D.v (Value.bool (eqI [g0_1, g1_1, g2_1] [g0_2, g1_2, g2_2])))) else K (DV.c (D.v (Value.bool false))) else K (DV.c (D.v (Value.bool false))) else K (DV.c (D.v (Value.bool false))) else False else False else False else False else False else False else False else False else False else False else False else False) := by kernel_rfl

end Vm