/- What the functions of this text do, told by an interpreter that is proved right (YtdfehiebnempaaaVA to VD). My own work. -/
import Derived.Test.YtdfehiebnempaaaVRdC
namespace Vm
open Go Go.Proofs
set_option linter.unusedSimpArgs false
set_option linter.unusedVariables false
set_option maxRecDepth 100000
/-! ### reads in words: what the functions say -/
theorem thv_cases {a b c d : List (List Int)} {r : List Int} (h : thv a b c d r = true) : (r.getD 0 0 = 0 ∧ 0 ≤ r.getD 1 0 ∧ (r.getD 1 0) < a.length) ∨ (r.getD 0 0 = 1 ∧ 0 ≤ r.getD 1 0 ∧ (r.getD 1 0) < b.length) ∨ (r.getD 0 0 = 2 ∧ 0 ≤ r.getD 1 0 ∧ (r.getD 1 0) < c.length) ∨ (r.getD 0 0 = 3 ∧ 0 ≤ r.getD 1 0 ∧ (r.getD 1 0) < d.length) := by
  unfold thv thr at h
  cases h1 : lab (r.getD 0 0) with
  | false => rw [h1] at h; cases h
  | true =>
    rw [h1, cond_true] at h
    cases h2 : decide (r.getD 1 0 ≥ 0) with
    | false => rw [h2] at h; cases h
    | true =>
      rw [h2, cond_true] at h
      have h2 := of_decide_eq_true h2
      rcases lab_cases h1 with e | e | e | e <;> rw [e] at h
      · exact .inl ⟨e, h2, of_decide_eq_true h⟩
      · exact .inr (.inl ⟨e, h2, of_decide_eq_true h⟩)
      · exact .inr (.inr (.inl ⟨e, h2, of_decide_eq_true h⟩))
      · exact .inr (.inr (.inr ⟨e, h2, of_decide_eq_true h⟩))
theorem q00 : decide ((0 : Int) = 0) = true := rfl
theorem q10 : decide ((1 : Int) = 0) = false := rfl
theorem q20 : decide ((2 : Int) = 0) = false := rfl
theorem q30 : decide ((3 : Int) = 0) = false := rfl
theorem q11 : decide ((1 : Int) = 1) = true := rfl
theorem q21 : decide ((2 : Int) = 1) = false := rfl
theorem q31 : decide ((3 : Int) = 1) = false := rfl
theorem q22 : decide ((2 : Int) = 2) = true := rfl
theorem q32 : decide ((3 : Int) = 2) = false := rfl
theorem q33 : decide ((3 : Int) = 3) = true := rfl
theorem wdv0 {a b c d : List (List Int)} {r : List Int} (h : r.getD 0 0 = 0) : wdv a b c d r = a.getD (r.getD 1 0).toNat [] := by unfold wdv wrd; rw [h]; rfl
theorem wdv1 {a b c d : List (List Int)} {r : List Int} (h : r.getD 0 0 = 1) : wdv a b c d r = b.getD (r.getD 1 0).toNat [] := by unfold wdv wrd; rw [h]; rfl
theorem wdv2 {a b c d : List (List Int)} {r : List Int} (h : r.getD 0 0 = 2) : wdv a b c d r = c.getD (r.getD 1 0).toNat [] := by unfold wdv wrd; rw [h]; rfl
theorem wdv3 {a b c d : List (List Int)} {r : List Int} (h : r.getD 0 0 = 3) : wdv a b c d r = d.getD (r.getD 1 0).toNat [] := by unfold wdv wrd; rw [h]; rfl
theorem all_getD {l : List (List Int)} {p : List Int → Bool} (h : l.all p = true) {i : Nat} (hi : i < l.length) : p (l.getD i []) = true := by
  have := List.all_eq_true.1 h l[i] (List.getElem_mem hi)
  simpa [List.getD_eq_getElem?_getD, hi] using this
theorem wone_of {r : List Int} (h : r.length = 3) : [r.getD 0 0, r.getD 1 0, r.getD 2 0] = r := by
  match r, h with
  | [x, y, z], _ => rfl
theorem wid_getD {z : Nat} {l : List (List Int)} (h : wid z l) {i : Nat} (hi : i < l.length) : (l.getD i []).length = z := by
  have : l.getD i [] = l[i] := by simp [List.getD_eq_getElem?_getD, hi]
  rw [this]; exact h _ (List.getElem_mem hi)
def fRT (a b c d l : List (List Int)) (sp p0 p1 p2 p3 : List (List D)) : LSum := findS [1, 2, 4, 5] [3] (fun i => stRT (mZ a) p0 (mZ b) p1 (mZ c) p2 (mZ d) p3 (mZ l) sp false i) (fun i => stRT (mZ a) p0 (mZ b) p1 (mZ c) p2 (mZ d) p3 (mZ l) sp false i) (l.length) (fun i => !thv a b c d (l.getD i [])) .ret (.exit 0)
theorem kRT {a b c d l : List (List Int)} {sp p0 p1 p2 p3 : List (List D)} (ha : wid 3 a) (hb : wid 3 b) (hc : wid 3 c) (hd : wid 3 d) (hw : wid 3 l) (hn : l.length ≤ 9223372036854775807) (Q : Exit → X → Prop) (x : X) (h : fRT a b c d l sp p0 p1 p2 p3 Q x) : XWP Try.prog (.loop (bodyL Try.f76 0)) Q x := by
  refine xwp_findV (sw := []) (V := v_stRT (mZ a) p0 (mZ b) p1 (mZ c) p2 (mZ d) p3 (mZ l) sp) (VE := fun _ => v_stRT (mZ a) p0 (mZ b) p1 (mZ c) p2 (mZ d) p3 (mZ l) sp) mixed (v_stRT_ok (mZ a) p0 (mZ b) p1 (mZ c) p2 (mZ d) p3 (mZ l) sp) (fun _ => v_stRT_ok (mZ a) p0 (mZ b) p1 (mZ c) p2 (mZ d) p3 (mZ l) sp) _ _ _ _ _ _ (fun i hl => ⟨hkA band bor [(60, sRThr)] [], hkl_ok (.cons oRThr .nil), loops_nil rfl, fun N E h1 h2 => ?_⟩) ⟨hkA band bor [(60, sRThr)] [], hkl_ok (.cons oRThr .nil), loops_nil rfl, fun N E h1 => ?_⟩ Q x h
  · rw [rRT]
    have wi : IntKind.wrap .i64 ((i : Int) + 1) = ((i + 1 : Nat) : Int) := wrap_nat (n := 1) (by omega)
    have a0 : isJ [IntKind.i64] ((mZ l).getD i []) = true := isJ_mZ (j := 0) (n := 1) hw hl (by omega)
    have a1 : isJ [IntKind.i64] (List.drop 1 ((mZ l).getD i [])) = true := isJ_mZ (j := 1) (n := 1) hw hl (by omega)
    have a2 : isJ [IntKind.i64] (List.drop 2 ((mZ l).getD i [])) = true := isJ_mZ (j := 2) (n := 1) hw hl (by omega)
    have a3 : isJ [IntKind.i64, IntKind.i64, IntKind.i64] ((mZ l).getD i []) = true := isJ_mZ (j := 0) (n := 3) hw hl (by omega)
    simp only [mZ_len, Int.ofNat_lt, hl, decide_true, cond_true, Int.natCast_nonneg, Bool.and_self, Int.toNat_natCast, a0, a1, a2, a3, List.drop_zero, hdJ_mZ0, hdJ_mZ, hdJ_mZt1, hdJ_mZt2, true_and, wi]
    unfold thv at h1 h2
    cases ht : thr a.length b.length c.length d.length ((l.getD i []).getD 0 0) ((l.getD i []).getD 1 0) with
    | false => exact h1 (by rw [ht]; rfl)
    | true => exact h2 (by rw [ht]; rfl)
  · rw [rRT]
    simp only [mZ_len, Int.ofNat_lt, Nat.lt_irrefl, decide_false, cond_false, true_and]
    exact h1
theorem s4 {R0 R1 R2 R3 R : List (List D)} (h : (okA R0 R1 R2 R3 && okZ 3 R) = true) : (R0 = mZ (toZ R0) ∧ wid 3 (toZ R0) ∧ R1 = mZ (toZ R1) ∧ wid 3 (toZ R1) ∧ R2 = mZ (toZ R2) ∧ wid 3 (toZ R2) ∧ R3 = mZ (toZ R3) ∧ wid 3 (toZ R3)) ∧ R = mZ (toZ R) ∧ wid 3 (toZ R) ∧ (toZ R).length ≤ 9223372036854775807 := by
  rw [Bool.and_eq_true] at h
  obtain ⟨h1, h2⟩ := h
  obtain ⟨q0, q1, q2, q3⟩ := okA_spec h1
  obtain ⟨a1, a2, _⟩ := okZ_spec q0
  obtain ⟨b1, b2, _⟩ := okZ_spec q1
  obtain ⟨c1, c2, _⟩ := okZ_spec q2
  obtain ⟨d1, d2, _⟩ := okZ_spec q3
  obtain ⟨e1, e2, e3⟩ := okZ_spec h2
  exact ⟨⟨a1, a2, b1, b2, c1, c2, d1, d2⟩, e1, e2, by rw [toZ_len]; exact e3⟩
theorem okA_mZ {a b c d : List (List Int)} {R0 R1 R2 R3 : List (List D)} (h : okA R0 R1 R2 R3 = true) (ea : toZ R0 = a) (eb : toZ R1 = b) (ec : toZ R2 = c) (ed : toZ R3 = d) : okA (mZ a) (mZ b) (mZ c) (mZ d) = true := by
  obtain ⟨q0, q1, q2, q3⟩ := okA_spec h
  rw [← ea, ← eb, ← ec, ← ed, ← (okZ_spec q0).1, ← (okZ_spec q1).1, ← (okZ_spec q2).1, ← (okZ_spec q3).1]; exact h
theorem eRT (a b c d l : List (List Int)) (sp p0 p1 p2 p3 : List (List D))  (K : DV → Prop) : (askL Try.prog [] [(2, fRT a b c d l sp p0 p1 p2 p3)] Try.f76 [dA (mZ a) p0 (mZ b) p1 (mZ c) p2 (mZ d) p3, dS 3 (mZ l) sp] K) = (stRT (mZ a) p0 (mZ b) p1 (mZ c) p2 (mZ d) p3 (mZ l) sp false (0) = stRT (mZ a) p0 (mZ b) p1 (mZ c) p2 (mZ d) p3 (mZ l) sp false (0) ∧ (∀ (i : Nat), firstAt (fun i => !thv a b c d (List.getD l i [])) (List.length l) i → K (DV.c (D.v (Value.bool false)))) ∧ (noneTo (fun i => !thv a b c d (List.getD l i [])) (List.length l) → K (DV.c (D.v (Value.bool true))))) := by kernel_rfl
theorem take_succ_getD {l : List (List Int)} {i : Nat} (hi : i < l.length) : l.take (i + 1) = l.take i ++ [l.getD i []] := by
  rw [List.take_add_one]; simp [List.getD_eq_getElem?_getD, hi]
def fWo (a b c d l : List (List Int)) (sp p0 p1 p2 p3 : List (List D)) : LSum := findS [0, 1, 4, 5, 6, 19, 20, 21] [5, 7, 40005000] (fun i => stWo (mZ a) p0 (mZ b) p1 (mZ c) p2 (mZ d) p3 (mZ l) sp false i i i (mZ ((l.take i).map (wdv a b c d)))) (fun i => stWp (mZ a) p0 (mZ b) p1 (mZ c) p2 (mZ d) p3 (mZ l) sp false i i i (mZ ((l.take i).map (wdv a b c d)))) (l.length) (fun i => !thv a b c d (l.getD i [])) .ret (.exit 0)
theorem kWo {a b c d l : List (List Int)} {sp p0 p1 p2 p3 : List (List D)} (ha : wid 3 a) (hb : wid 3 b) (hc : wid 3 c) (hd : wid 3 d) (hw : wid 3 l) (hn : l.length ≤ 9223372036854775807) (h16 : l.length ≤ 16) (Q : Exit → X → Prop) (x : X) (h : fWo a b c d l sp p0 p1 p2 p3 Q x) : XWP Try.prog (.loop (bodyL Try.f73 0)) Q x := by
  refine xwp_findV (sw := []) (V := v_stWo (mZ a) p0 (mZ b) p1 (mZ c) p2 (mZ d) p3 (mZ l) sp) (VE := exV (v_stWp (mZ a) p0 (mZ b) p1 (mZ c) p2 (mZ d) p3 (mZ l) sp) (v_stWo (mZ a) p0 (mZ b) p1 (mZ c) p2 (mZ d) p3 (mZ l) sp)) mixed (v_stWo_ok (mZ a) p0 (mZ b) p1 (mZ c) p2 (mZ d) p3 (mZ l) sp) (exV_ok (v_stWp_ok (mZ a) p0 (mZ b) p1 (mZ c) p2 (mZ d) p3 (mZ l) sp) (v_stWo_ok (mZ a) p0 (mZ b) p1 (mZ c) p2 (mZ d) p3 (mZ l) sp)) _ _ _ _ _ _ (fun i hl => ⟨hkA band bor [(59, sThr)] [], hkl_ok (.cons oThr .nil), loops_nil rfl, fun N E h1 h2 => ?_⟩) ⟨hkA band bor [(59, sThr)] [], hkl_ok (.cons oThr .nil), loops_nil rfl, fun N E h1 => ?_⟩ Q x h
  · rw [rWo]
    have wi : IntKind.wrap .i64 ((i : Int) + 1) = ((i + 1 : Nat) : Int) := wrap_nat (n := 1) (by omega)
    have a0 : isJ [IntKind.i64] ((mZ l).getD i []) = true := isJ_mZ (j := 0) (n := 1) hw hl (by omega)
    have a1 : isJ [IntKind.i64] (List.drop 1 ((mZ l).getD i [])) = true := isJ_mZ (j := 1) (n := 1) hw hl (by omega)
    have a2 : isJ [IntKind.i64] (List.drop 2 ((mZ l).getD i [])) = true := isJ_mZ (j := 2) (n := 1) hw hl (by omega)
    have a3 : isJ [IntKind.i64, IntKind.i64, IntKind.i64] ((mZ l).getD i []) = true := isJ_mZ (j := 0) (n := 3) hw hl (by omega)
    cases ht : thv a b c d (l.getD i []) with
    | false =>
      have ht' := ht
      unfold thv at ht'
      simp only [mZ_len, Int.ofNat_lt, hl, decide_true, cond_true, Int.natCast_nonneg, Bool.and_self, Int.toNat_natCast, a0, a1, a2, a3, List.drop_zero, hdJ_mZ0, hdJ_mZ, hdJ_mZt1, hdJ_mZt2, true_and, wi, ht', Bool.not_false]
      exact h1 (by rw [ht]; rfl)
    | true =>
    have ht' := ht
    unfold thv at ht'
    have n0 : thr a.length b.length c.length d.length ((l.getD i []).getD 0 0) ((l.getD i []).getD 1 0) = true := ht'
    simp only [mZ_len, Int.ofNat_lt, hl, decide_true, cond_true, Int.natCast_nonneg, Bool.and_self, Int.toNat_natCast, a0, a1, a2, a3, List.drop_zero, hdJ_mZ0, hdJ_mZ, hdJ_mZt1, hdJ_mZt2, true_and, wi, n0, Bool.not_true, cond_false]
    rcases thv_cases ht with ⟨e0, e1, e2⟩ | ⟨e0, e1, e2⟩ | ⟨e0, e1, e2⟩ | ⟨e0, e1, e2⟩
    · have hlt : ((l.getD i []).getD 1 0).toNat < a.length := by omega
      have j1 : isJ [IntKind.i64] (List.drop 1 ((mZ a).getD ((l.getD i []).getD 1 0).toNat [])) = true := isJ_mZ (j := 1) (n := 1) ha hlt (by omega)
      have j2 : isJ [IntKind.i64, IntKind.i64, IntKind.i64] ((mZ a).getD ((l.getD i []).getD 1 0).toNat []) = true := isJ_mZ (j := 0) (n := 3) ha hlt (by omega)
      have g1 : decide (0 ≤ (l.getD i []).getD 1 0) = true := decide_eq_true e1
      have g2 : decide ((l.getD i []).getD 1 0 < (a.length : Int)) = true := decide_eq_true e2
      simp only [mZ_len, Int.ofNat_lt, hl, decide_true, cond_true, Int.natCast_nonneg, Bool.and_self, Int.toNat_natCast, a0, a1, a2, a3, List.drop_zero, hdJ_mZ0, hdJ_mZ, hdJ_mZt1, hdJ_mZt2, true_and, wi, g1, g2, j1, j2, e0, q00, q10, q20, q30, q11, q21, q31, q22, q32, q33, cond_false]
      have hm1 : decide ((i + 1) * 24 ≤ 140737488355328) = true := decide_eq_true (by omega)
      have hm2 : decide (i + 1 ≤ 9223372036854775807) = true := decide_eq_true (by omega)
      have hwl : (mZ ((l.take i).map (wdv a b c d))).length = i := by rw [mZ_len]; simp; omega
      have hl2 : decide (i ≤ ((l.take i).map (wdv a b c d)).length) = true := decide_eq_true (by simp; omega)
      have e3 := wdv0 (a := a) (b := b) (c := c) (d := d) e0
      simp only [hm1, hm2, hl2, Bool.and_self, cond_true]
      have h3 := h2 (by rw [thv] at ht; unfold thv; rw [ht]; rfl)
      have e4 : List.take i (mZ ((l.take i).map (wdv a b c d))) ++ [[D.v (.int .i64 ((a.getD ((l.getD i []).getD 1 0).toNat []).getD 0 0)), D.v (.int .i64 ((a.getD ((l.getD i []).getD 1 0).toNat []).getD 1 0)), D.v (.int .i64 ((a.getD ((l.getD i []).getD 1 0).toNat []).getD 2 0))]] = mZ ((l.take (i + 1)).map (wdv a b c d)) := by
        rw [List.take_of_length_le (by rw [hwl]; exact Nat.le_refl _), take_succ_getD hl, List.map_append, ← mZ_append]
        simp only [List.map_cons, List.map_nil, e3, mZ]
        rw [show (a.getD ((l.getD i []).getD 1 0).toNat []) = [(a.getD ((l.getD i []).getD 1 0).toNat []).getD 0 0, (a.getD ((l.getD i []).getD 1 0).toNat []).getD 1 0, (a.getD ((l.getD i []).getD 1 0).toNat []).getD 2 0] from (wone_of (wid_getD ha hlt)).symm]
        rfl
      rw [e4]
      exact h3
    · have hlt : ((l.getD i []).getD 1 0).toNat < b.length := by omega
      have j1 : isJ [IntKind.i64] (List.drop 1 ((mZ b).getD ((l.getD i []).getD 1 0).toNat [])) = true := isJ_mZ (j := 1) (n := 1) hb hlt (by omega)
      have j2 : isJ [IntKind.i64, IntKind.i64, IntKind.i64] ((mZ b).getD ((l.getD i []).getD 1 0).toNat []) = true := isJ_mZ (j := 0) (n := 3) hb hlt (by omega)
      have g1 : decide (0 ≤ (l.getD i []).getD 1 0) = true := decide_eq_true e1
      have g2 : decide ((l.getD i []).getD 1 0 < (b.length : Int)) = true := decide_eq_true e2
      simp only [mZ_len, Int.ofNat_lt, hl, decide_true, cond_true, Int.natCast_nonneg, Bool.and_self, Int.toNat_natCast, a0, a1, a2, a3, List.drop_zero, hdJ_mZ0, hdJ_mZ, hdJ_mZt1, hdJ_mZt2, true_and, wi, g1, g2, j1, j2, e0, q00, q10, q20, q30, q11, q21, q31, q22, q32, q33, cond_false]
      have hm1 : decide ((i + 1) * 24 ≤ 140737488355328) = true := decide_eq_true (by omega)
      have hm2 : decide (i + 1 ≤ 9223372036854775807) = true := decide_eq_true (by omega)
      have hwl : (mZ ((l.take i).map (wdv a b c d))).length = i := by rw [mZ_len]; simp; omega
      have hl2 : decide (i ≤ ((l.take i).map (wdv a b c d)).length) = true := decide_eq_true (by simp; omega)
      have e3 := wdv1 (a := a) (b := b) (c := c) (d := d) e0
      simp only [hm1, hm2, hl2, Bool.and_self, cond_true]
      have h3 := h2 (by rw [thv] at ht; unfold thv; rw [ht]; rfl)
      have e4 : List.take i (mZ ((l.take i).map (wdv a b c d))) ++ [[D.v (.int .i64 ((b.getD ((l.getD i []).getD 1 0).toNat []).getD 0 0)), D.v (.int .i64 ((b.getD ((l.getD i []).getD 1 0).toNat []).getD 1 0)), D.v (.int .i64 ((b.getD ((l.getD i []).getD 1 0).toNat []).getD 2 0))]] = mZ ((l.take (i + 1)).map (wdv a b c d)) := by
        rw [List.take_of_length_le (by rw [hwl]; exact Nat.le_refl _), take_succ_getD hl, List.map_append, ← mZ_append]
        simp only [List.map_cons, List.map_nil, e3, mZ]
        rw [show (b.getD ((l.getD i []).getD 1 0).toNat []) = [(b.getD ((l.getD i []).getD 1 0).toNat []).getD 0 0, (b.getD ((l.getD i []).getD 1 0).toNat []).getD 1 0, (b.getD ((l.getD i []).getD 1 0).toNat []).getD 2 0] from (wone_of (wid_getD hb hlt)).symm]
        rfl
      rw [e4]
      exact h3
    · have hlt : ((l.getD i []).getD 1 0).toNat < c.length := by omega
      have j1 : isJ [IntKind.i64] (List.drop 1 ((mZ c).getD ((l.getD i []).getD 1 0).toNat [])) = true := isJ_mZ (j := 1) (n := 1) hc hlt (by omega)
      have j2 : isJ [IntKind.i64, IntKind.i64, IntKind.i64] ((mZ c).getD ((l.getD i []).getD 1 0).toNat []) = true := isJ_mZ (j := 0) (n := 3) hc hlt (by omega)
      have g1 : decide (0 ≤ (l.getD i []).getD 1 0) = true := decide_eq_true e1
      have g2 : decide ((l.getD i []).getD 1 0 < (c.length : Int)) = true := decide_eq_true e2
      simp only [mZ_len, Int.ofNat_lt, hl, decide_true, cond_true, Int.natCast_nonneg, Bool.and_self, Int.toNat_natCast, a0, a1, a2, a3, List.drop_zero, hdJ_mZ0, hdJ_mZ, hdJ_mZt1, hdJ_mZt2, true_and, wi, g1, g2, j1, j2, e0, q00, q10, q20, q30, q11, q21, q31, q22, q32, q33, cond_false]
      have hm1 : decide ((i + 1) * 24 ≤ 140737488355328) = true := decide_eq_true (by omega)
      have hm2 : decide (i + 1 ≤ 9223372036854775807) = true := decide_eq_true (by omega)
      have hwl : (mZ ((l.take i).map (wdv a b c d))).length = i := by rw [mZ_len]; simp; omega
      have hl2 : decide (i ≤ ((l.take i).map (wdv a b c d)).length) = true := decide_eq_true (by simp; omega)
      have e3 := wdv2 (a := a) (b := b) (c := c) (d := d) e0
      simp only [hm1, hm2, hl2, Bool.and_self, cond_true]
      have h3 := h2 (by rw [thv] at ht; unfold thv; rw [ht]; rfl)
      have e4 : List.take i (mZ ((l.take i).map (wdv a b c d))) ++ [[D.v (.int .i64 ((c.getD ((l.getD i []).getD 1 0).toNat []).getD 0 0)), D.v (.int .i64 ((c.getD ((l.getD i []).getD 1 0).toNat []).getD 1 0)), D.v (.int .i64 ((c.getD ((l.getD i []).getD 1 0).toNat []).getD 2 0))]] = mZ ((l.take (i + 1)).map (wdv a b c d)) := by
        rw [List.take_of_length_le (by rw [hwl]; exact Nat.le_refl _), take_succ_getD hl, List.map_append, ← mZ_append]
        simp only [List.map_cons, List.map_nil, e3, mZ]
        rw [show (c.getD ((l.getD i []).getD 1 0).toNat []) = [(c.getD ((l.getD i []).getD 1 0).toNat []).getD 0 0, (c.getD ((l.getD i []).getD 1 0).toNat []).getD 1 0, (c.getD ((l.getD i []).getD 1 0).toNat []).getD 2 0] from (wone_of (wid_getD hc hlt)).symm]
        rfl
      rw [e4]
      exact h3
    · have hlt : ((l.getD i []).getD 1 0).toNat < d.length := by omega
      have j1 : isJ [IntKind.i64] (List.drop 1 ((mZ d).getD ((l.getD i []).getD 1 0).toNat [])) = true := isJ_mZ (j := 1) (n := 1) hd hlt (by omega)
      have j2 : isJ [IntKind.i64, IntKind.i64, IntKind.i64] ((mZ d).getD ((l.getD i []).getD 1 0).toNat []) = true := isJ_mZ (j := 0) (n := 3) hd hlt (by omega)
      have g1 : decide (0 ≤ (l.getD i []).getD 1 0) = true := decide_eq_true e1
      have g2 : decide ((l.getD i []).getD 1 0 < (d.length : Int)) = true := decide_eq_true e2
      simp only [mZ_len, Int.ofNat_lt, hl, decide_true, cond_true, Int.natCast_nonneg, Bool.and_self, Int.toNat_natCast, a0, a1, a2, a3, List.drop_zero, hdJ_mZ0, hdJ_mZ, hdJ_mZt1, hdJ_mZt2, true_and, wi, g1, g2, j1, j2, e0, q00, q10, q20, q30, q11, q21, q31, q22, q32, q33, cond_false]
      have hm1 : decide ((i + 1) * 24 ≤ 140737488355328) = true := decide_eq_true (by omega)
      have hm2 : decide (i + 1 ≤ 9223372036854775807) = true := decide_eq_true (by omega)
      have hwl : (mZ ((l.take i).map (wdv a b c d))).length = i := by rw [mZ_len]; simp; omega
      have hl2 : decide (i ≤ ((l.take i).map (wdv a b c d)).length) = true := decide_eq_true (by simp; omega)
      have e3 := wdv3 (a := a) (b := b) (c := c) (d := d) e0
      simp only [hm1, hm2, hl2, Bool.and_self, cond_true]
      have h3 := h2 (by rw [thv] at ht; unfold thv; rw [ht]; rfl)
      have e4 : List.take i (mZ ((l.take i).map (wdv a b c d))) ++ [[D.v (.int .i64 ((d.getD ((l.getD i []).getD 1 0).toNat []).getD 0 0)), D.v (.int .i64 ((d.getD ((l.getD i []).getD 1 0).toNat []).getD 1 0)), D.v (.int .i64 ((d.getD ((l.getD i []).getD 1 0).toNat []).getD 2 0))]] = mZ ((l.take (i + 1)).map (wdv a b c d)) := by
        rw [List.take_of_length_le (by rw [hwl]; exact Nat.le_refl _), take_succ_getD hl, List.map_append, ← mZ_append]
        simp only [List.map_cons, List.map_nil, e3, mZ]
        rw [show (d.getD ((l.getD i []).getD 1 0).toNat []) = [(d.getD ((l.getD i []).getD 1 0).toNat []).getD 0 0, (d.getD ((l.getD i []).getD 1 0).toNat []).getD 1 0, (d.getD ((l.getD i []).getD 1 0).toNat []).getD 2 0] from (wone_of (wid_getD hd hlt)).symm]
        rfl
      rw [e4]
      exact h3
  · rw [rWo]
    simp only [mZ_len, Int.ofNat_lt, Nat.lt_irrefl, decide_false, cond_false, true_and]
    exact h1
def fCr (a b c d l : List (List Int)) (sp p0 p1 p2 p3 : List (List D)) : LSum := findS [1, 2, 4, 5, 6] [3] (fun i => stCr (mZ a) p0 (mZ b) p1 (mZ c) p2 (mZ d) p3 (mZ l) sp false 0 i) (fun i => stCr (mZ a) p0 (mZ b) p1 (mZ c) p2 (mZ d) p3 (mZ l) sp true 0 i) (l.length) (fun i => badC a b c d (l.getD i [])) .ret (.exit 0)
theorem kCr {a b c d l : List (List Int)} {sp p0 p1 p2 p3 : List (List D)} (ha : wid 3 a) (hb : wid 3 b) (hc : wid 3 c) (hd : wid 3 d) (hw : wid 3 l) (hn : l.length ≤ 9223372036854775807) (hth : l.all (thv a b c d) = true) (Q : Exit → X → Prop) (x : X) (h : fCr a b c d l sp p0 p1 p2 p3 Q x) : XWP Try.prog (.loop (bodyL Try.f38 0)) Q x := by
  refine xwp_findV (sw := []) (V := v_stCr (mZ a) p0 (mZ b) p1 (mZ c) p2 (mZ d) p3 (mZ l) sp) (VE := fun _ => v_stCr (mZ a) p0 (mZ b) p1 (mZ c) p2 (mZ d) p3 (mZ l) sp) mixed (v_stCr_ok (mZ a) p0 (mZ b) p1 (mZ c) p2 (mZ d) p3 (mZ l) sp) (fun _ => v_stCr_ok (mZ a) p0 (mZ b) p1 (mZ c) p2 (mZ d) p3 (mZ l) sp) _ _ _ _ _ _ (fun i hl => ⟨hkA band bor [] [], hkl_ok .nil, loops_nil rfl, fun N E h1 h2 => ?_⟩) ⟨hkA band bor [] [], hkl_ok .nil, loops_nil rfl, fun N E h1 => ?_⟩ Q x h
  · rw [rCr]
    have wi : IntKind.wrap .i64 ((i : Int) + 1) = ((i + 1 : Nat) : Int) := wrap_nat (n := 1) (by omega)
    have a0 : isJ [IntKind.i64] ((mZ l).getD i []) = true := isJ_mZ (j := 0) (n := 1) hw hl (by omega)
    have a1 : isJ [IntKind.i64] (List.drop 1 ((mZ l).getD i [])) = true := isJ_mZ (j := 1) (n := 1) hw hl (by omega)
    have a2 : isJ [IntKind.i64] (List.drop 2 ((mZ l).getD i [])) = true := isJ_mZ (j := 2) (n := 1) hw hl (by omega)
    have a3 : isJ [IntKind.i64, IntKind.i64, IntKind.i64] ((mZ l).getD i []) = true := isJ_mZ (j := 0) (n := 3) hw hl (by omega)
    have ht := all_getD hth hl
    rcases thv_cases ht with ⟨e0, e1, e2⟩ | ⟨e0, e1, e2⟩ | ⟨e0, e1, e2⟩ | ⟨e0, e1, e2⟩
    · have hlt : ((l.getD i []).getD 1 0).toNat < a.length := by omega
      have j1 : isJ [IntKind.i64] (List.drop 1 ((mZ a).getD ((l.getD i []).getD 1 0).toNat [])) = true := isJ_mZ (j := 1) (n := 1) ha hlt (by omega)
      have j2 : isJ [IntKind.i64, IntKind.i64, IntKind.i64] ((mZ a).getD ((l.getD i []).getD 1 0).toNat []) = true := isJ_mZ (j := 0) (n := 3) ha hlt (by omega)
      have g1 : decide (0 ≤ (l.getD i []).getD 1 0) = true := decide_eq_true e1
      have g2 : decide ((l.getD i []).getD 1 0 < (a.length : Int)) = true := decide_eq_true e2
      simp only [mZ_len, Int.ofNat_lt, hl, decide_true, cond_true, Int.natCast_nonneg, Bool.and_self, Int.toNat_natCast, a0, a1, a2, a3, List.drop_zero, hdJ_mZ0, hdJ_mZ, hdJ_mZt1, hdJ_mZt2, true_and, wi, g1, g2, j1, j2, e0, q00, q10, q20, q30, q11, q21, q31, q22, q32, q33, cond_false]
      unfold badC at h1 h2
      rw [wdv0 e0] at h1 h2
      cases hb : ((a.getD ((l.getD i []).getD 1 0).toNat []).getD 1 0 != (l.getD i []).getD 2 0) with
      | true => exact h1 hb
      | false => exact h2 hb
    · have hlt : ((l.getD i []).getD 1 0).toNat < b.length := by omega
      have j1 : isJ [IntKind.i64] (List.drop 1 ((mZ b).getD ((l.getD i []).getD 1 0).toNat [])) = true := isJ_mZ (j := 1) (n := 1) hb hlt (by omega)
      have j2 : isJ [IntKind.i64, IntKind.i64, IntKind.i64] ((mZ b).getD ((l.getD i []).getD 1 0).toNat []) = true := isJ_mZ (j := 0) (n := 3) hb hlt (by omega)
      have g1 : decide (0 ≤ (l.getD i []).getD 1 0) = true := decide_eq_true e1
      have g2 : decide ((l.getD i []).getD 1 0 < (b.length : Int)) = true := decide_eq_true e2
      simp only [mZ_len, Int.ofNat_lt, hl, decide_true, cond_true, Int.natCast_nonneg, Bool.and_self, Int.toNat_natCast, a0, a1, a2, a3, List.drop_zero, hdJ_mZ0, hdJ_mZ, hdJ_mZt1, hdJ_mZt2, true_and, wi, g1, g2, j1, j2, e0, q00, q10, q20, q30, q11, q21, q31, q22, q32, q33, cond_false]
      unfold badC at h1 h2
      rw [wdv1 e0] at h1 h2
      cases hb : ((b.getD ((l.getD i []).getD 1 0).toNat []).getD 1 0 != (l.getD i []).getD 2 0) with
      | true => exact h1 hb
      | false => exact h2 hb
    · have hlt : ((l.getD i []).getD 1 0).toNat < c.length := by omega
      have j1 : isJ [IntKind.i64] (List.drop 1 ((mZ c).getD ((l.getD i []).getD 1 0).toNat [])) = true := isJ_mZ (j := 1) (n := 1) hc hlt (by omega)
      have j2 : isJ [IntKind.i64, IntKind.i64, IntKind.i64] ((mZ c).getD ((l.getD i []).getD 1 0).toNat []) = true := isJ_mZ (j := 0) (n := 3) hc hlt (by omega)
      have g1 : decide (0 ≤ (l.getD i []).getD 1 0) = true := decide_eq_true e1
      have g2 : decide ((l.getD i []).getD 1 0 < (c.length : Int)) = true := decide_eq_true e2
      simp only [mZ_len, Int.ofNat_lt, hl, decide_true, cond_true, Int.natCast_nonneg, Bool.and_self, Int.toNat_natCast, a0, a1, a2, a3, List.drop_zero, hdJ_mZ0, hdJ_mZ, hdJ_mZt1, hdJ_mZt2, true_and, wi, g1, g2, j1, j2, e0, q00, q10, q20, q30, q11, q21, q31, q22, q32, q33, cond_false]
      unfold badC at h1 h2
      rw [wdv2 e0] at h1 h2
      cases hb : ((c.getD ((l.getD i []).getD 1 0).toNat []).getD 1 0 != (l.getD i []).getD 2 0) with
      | true => exact h1 hb
      | false => exact h2 hb
    · have hlt : ((l.getD i []).getD 1 0).toNat < d.length := by omega
      have j1 : isJ [IntKind.i64] (List.drop 1 ((mZ d).getD ((l.getD i []).getD 1 0).toNat [])) = true := isJ_mZ (j := 1) (n := 1) hd hlt (by omega)
      have j2 : isJ [IntKind.i64, IntKind.i64, IntKind.i64] ((mZ d).getD ((l.getD i []).getD 1 0).toNat []) = true := isJ_mZ (j := 0) (n := 3) hd hlt (by omega)
      have g1 : decide (0 ≤ (l.getD i []).getD 1 0) = true := decide_eq_true e1
      have g2 : decide ((l.getD i []).getD 1 0 < (d.length : Int)) = true := decide_eq_true e2
      simp only [mZ_len, Int.ofNat_lt, hl, decide_true, cond_true, Int.natCast_nonneg, Bool.and_self, Int.toNat_natCast, a0, a1, a2, a3, List.drop_zero, hdJ_mZ0, hdJ_mZ, hdJ_mZt1, hdJ_mZt2, true_and, wi, g1, g2, j1, j2, e0, q00, q10, q20, q30, q11, q21, q31, q22, q32, q33, cond_false]
      unfold badC at h1 h2
      rw [wdv3 e0] at h1 h2
      cases hb : ((d.getD ((l.getD i []).getD 1 0).toNat []).getD 1 0 != (l.getD i []).getD 2 0) with
      | true => exact h1 hb
      | false => exact h2 hb
  · rw [rCr]
    simp only [mZ_len, Int.ofNat_lt, Nat.lt_irrefl, decide_false, cond_false, true_and]
    exact h1
def fGr (a b c d l : List (List Int)) (sp p0 p1 p2 p3 : List (List D)) (id : Int) : LSum := findS [1, 2, 3, 6, 7, 8] [4] (fun i => stGr (mZ a) p0 (mZ b) p1 (mZ c) p2 (mZ d) p3 (mZ l) sp id false 0 i) (fun i => stGr (mZ a) p0 (mZ b) p1 (mZ c) p2 (mZ d) p3 (mZ l) sp id false 0 i) (l.length) (fun i => badG a b c d id (l.getD i [])) .ret (.exit 0)
theorem kGr {a b c d l : List (List Int)} {sp p0 p1 p2 p3 : List (List D)} (ha : wid 3 a) (hb : wid 3 b) (hc : wid 3 c) (hd : wid 3 d) (hw : wid 3 l) (hn : l.length ≤ 9223372036854775807) (id : Int) (hth : l.all (thv a b c d) = true) (Q : Exit → X → Prop) (x : X) (h : fGr a b c d l sp p0 p1 p2 p3 id Q x) : XWP Try.prog (.loop (bodyL Try.f36 0)) Q x := by
  refine xwp_findV (sw := []) (V := v_stGr (mZ a) p0 (mZ b) p1 (mZ c) p2 (mZ d) p3 (mZ l) sp id) (VE := fun _ => v_stGr (mZ a) p0 (mZ b) p1 (mZ c) p2 (mZ d) p3 (mZ l) sp id) mixed (v_stGr_ok (mZ a) p0 (mZ b) p1 (mZ c) p2 (mZ d) p3 (mZ l) sp id) (fun _ => v_stGr_ok (mZ a) p0 (mZ b) p1 (mZ c) p2 (mZ d) p3 (mZ l) sp id) _ _ _ _ _ _ (fun i hl => ⟨hkA band bor [] [], hkl_ok .nil, loops_nil rfl, fun N E h1 h2 => ?_⟩) ⟨hkA band bor [] [], hkl_ok .nil, loops_nil rfl, fun N E h1 => ?_⟩ Q x h
  · rw [rGr]
    have wi : IntKind.wrap .i64 ((i : Int) + 1) = ((i + 1 : Nat) : Int) := wrap_nat (n := 1) (by omega)
    have a0 : isJ [IntKind.i64] ((mZ l).getD i []) = true := isJ_mZ (j := 0) (n := 1) hw hl (by omega)
    have a1 : isJ [IntKind.i64] (List.drop 1 ((mZ l).getD i [])) = true := isJ_mZ (j := 1) (n := 1) hw hl (by omega)
    have a2 : isJ [IntKind.i64] (List.drop 2 ((mZ l).getD i [])) = true := isJ_mZ (j := 2) (n := 1) hw hl (by omega)
    have a3 : isJ [IntKind.i64, IntKind.i64, IntKind.i64] ((mZ l).getD i []) = true := isJ_mZ (j := 0) (n := 3) hw hl (by omega)
    have ht := all_getD hth hl
    rcases thv_cases ht with ⟨e0, e1, e2⟩ | ⟨e0, e1, e2⟩ | ⟨e0, e1, e2⟩ | ⟨e0, e1, e2⟩
    · have hlt : ((l.getD i []).getD 1 0).toNat < a.length := by omega
      have j1 : isJ [IntKind.i64] (List.drop 1 ((mZ a).getD ((l.getD i []).getD 1 0).toNat [])) = true := isJ_mZ (j := 1) (n := 1) ha hlt (by omega)
      have j2 : isJ [IntKind.i64, IntKind.i64, IntKind.i64] ((mZ a).getD ((l.getD i []).getD 1 0).toNat []) = true := isJ_mZ (j := 0) (n := 3) ha hlt (by omega)
      have g1 : decide (0 ≤ (l.getD i []).getD 1 0) = true := decide_eq_true e1
      have g2 : decide ((l.getD i []).getD 1 0 < (a.length : Int)) = true := decide_eq_true e2
      simp only [mZ_len, Int.ofNat_lt, hl, decide_true, cond_true, Int.natCast_nonneg, Bool.and_self, Int.toNat_natCast, a0, a1, a2, a3, List.drop_zero, hdJ_mZ0, hdJ_mZ, hdJ_mZt1, hdJ_mZt2, true_and, wi, g1, g2, j1, j2, e0, q00, q10, q20, q30, q11, q21, q31, q22, q32, q33, cond_false]
      unfold badG at h1 h2
      rw [wdv0 e0] at h1 h2
      revert h1 h2
      generalize ((a.getD ((l.getD i []).getD 1 0).toNat []).getD 1 0 != (l.getD i []).getD 2 0) = q1
      generalize ((a.getD ((l.getD i []).getD 1 0).toNat []).getD 2 0 != 0) = q2
      generalize ((a.getD ((l.getD i []).getD 1 0).toNat []).getD 2 0 != IntKind.wrap .i64 (id + 1)) = q3
      cases q1 <;> cases q2 <;> cases q3 <;> intro h1 h2 <;> first | exact h1 rfl | exact h2 rfl
    · have hlt : ((l.getD i []).getD 1 0).toNat < b.length := by omega
      have j1 : isJ [IntKind.i64] (List.drop 1 ((mZ b).getD ((l.getD i []).getD 1 0).toNat [])) = true := isJ_mZ (j := 1) (n := 1) hb hlt (by omega)
      have j2 : isJ [IntKind.i64, IntKind.i64, IntKind.i64] ((mZ b).getD ((l.getD i []).getD 1 0).toNat []) = true := isJ_mZ (j := 0) (n := 3) hb hlt (by omega)
      have g1 : decide (0 ≤ (l.getD i []).getD 1 0) = true := decide_eq_true e1
      have g2 : decide ((l.getD i []).getD 1 0 < (b.length : Int)) = true := decide_eq_true e2
      simp only [mZ_len, Int.ofNat_lt, hl, decide_true, cond_true, Int.natCast_nonneg, Bool.and_self, Int.toNat_natCast, a0, a1, a2, a3, List.drop_zero, hdJ_mZ0, hdJ_mZ, hdJ_mZt1, hdJ_mZt2, true_and, wi, g1, g2, j1, j2, e0, q00, q10, q20, q30, q11, q21, q31, q22, q32, q33, cond_false]
      unfold badG at h1 h2
      rw [wdv1 e0] at h1 h2
      revert h1 h2
      generalize ((b.getD ((l.getD i []).getD 1 0).toNat []).getD 1 0 != (l.getD i []).getD 2 0) = q1
      generalize ((b.getD ((l.getD i []).getD 1 0).toNat []).getD 2 0 != 0) = q2
      generalize ((b.getD ((l.getD i []).getD 1 0).toNat []).getD 2 0 != IntKind.wrap .i64 (id + 1)) = q3
      cases q1 <;> cases q2 <;> cases q3 <;> intro h1 h2 <;> first | exact h1 rfl | exact h2 rfl
    · have hlt : ((l.getD i []).getD 1 0).toNat < c.length := by omega
      have j1 : isJ [IntKind.i64] (List.drop 1 ((mZ c).getD ((l.getD i []).getD 1 0).toNat [])) = true := isJ_mZ (j := 1) (n := 1) hc hlt (by omega)
      have j2 : isJ [IntKind.i64, IntKind.i64, IntKind.i64] ((mZ c).getD ((l.getD i []).getD 1 0).toNat []) = true := isJ_mZ (j := 0) (n := 3) hc hlt (by omega)
      have g1 : decide (0 ≤ (l.getD i []).getD 1 0) = true := decide_eq_true e1
      have g2 : decide ((l.getD i []).getD 1 0 < (c.length : Int)) = true := decide_eq_true e2
      simp only [mZ_len, Int.ofNat_lt, hl, decide_true, cond_true, Int.natCast_nonneg, Bool.and_self, Int.toNat_natCast, a0, a1, a2, a3, List.drop_zero, hdJ_mZ0, hdJ_mZ, hdJ_mZt1, hdJ_mZt2, true_and, wi, g1, g2, j1, j2, e0, q00, q10, q20, q30, q11, q21, q31, q22, q32, q33, cond_false]
      unfold badG at h1 h2
      rw [wdv2 e0] at h1 h2
      revert h1 h2
      generalize ((c.getD ((l.getD i []).getD 1 0).toNat []).getD 1 0 != (l.getD i []).getD 2 0) = q1
      generalize ((c.getD ((l.getD i []).getD 1 0).toNat []).getD 2 0 != 0) = q2
      generalize ((c.getD ((l.getD i []).getD 1 0).toNat []).getD 2 0 != IntKind.wrap .i64 (id + 1)) = q3
      cases q1 <;> cases q2 <;> cases q3 <;> intro h1 h2 <;> first | exact h1 rfl | exact h2 rfl
    · have hlt : ((l.getD i []).getD 1 0).toNat < d.length := by omega
      have j1 : isJ [IntKind.i64] (List.drop 1 ((mZ d).getD ((l.getD i []).getD 1 0).toNat [])) = true := isJ_mZ (j := 1) (n := 1) hd hlt (by omega)
      have j2 : isJ [IntKind.i64, IntKind.i64, IntKind.i64] ((mZ d).getD ((l.getD i []).getD 1 0).toNat []) = true := isJ_mZ (j := 0) (n := 3) hd hlt (by omega)
      have g1 : decide (0 ≤ (l.getD i []).getD 1 0) = true := decide_eq_true e1
      have g2 : decide ((l.getD i []).getD 1 0 < (d.length : Int)) = true := decide_eq_true e2
      simp only [mZ_len, Int.ofNat_lt, hl, decide_true, cond_true, Int.natCast_nonneg, Bool.and_self, Int.toNat_natCast, a0, a1, a2, a3, List.drop_zero, hdJ_mZ0, hdJ_mZ, hdJ_mZt1, hdJ_mZt2, true_and, wi, g1, g2, j1, j2, e0, q00, q10, q20, q30, q11, q21, q31, q22, q32, q33, cond_false]
      unfold badG at h1 h2
      rw [wdv3 e0] at h1 h2
      revert h1 h2
      generalize ((d.getD ((l.getD i []).getD 1 0).toNat []).getD 1 0 != (l.getD i []).getD 2 0) = q1
      generalize ((d.getD ((l.getD i []).getD 1 0).toNat []).getD 2 0 != 0) = q2
      generalize ((d.getD ((l.getD i []).getD 1 0).toNat []).getD 2 0 != IntKind.wrap .i64 (id + 1)) = q3
      cases q1 <;> cases q2 <;> cases q3 <;> intro h1 h2 <;> first | exact h1 rfl | exact h2 rfl
  · rw [rGr]
    simp only [mZ_len, Int.ofNat_lt, Nat.lt_irrefl, decide_false, cond_false, true_and]
    exact h1
theorem wid_wdv {a b c d l : List (List Int)} (ha : wid 3 a) (hb : wid 3 b) (hc : wid 3 c) (hd : wid 3 d) (hth : l.all (thv a b c d) = true) : wid 3 (l.map (wdv a b c d)) := by
  intro r hr
  obtain ⟨q, hq, rfl⟩ := List.mem_map.1 hr
  rcases thv_cases (List.all_eq_true.1 hth q hq) with ⟨e0, e1, e2⟩ | ⟨e0, e1, e2⟩ | ⟨e0, e1, e2⟩ | ⟨e0, e1, e2⟩
  · rw [wdv0 e0]; exact wid_getD ha (by omega)
  · rw [wdv1 e0]; exact wid_getD hb (by omega)
  · rw [wdv2 e0]; exact wid_getD hc (by omega)
  · rw [wdv3 e0]; exact wid_getD hd (by omega)
theorem addN0 (i : Nat) : addN 0 i = i := by rw [addN_eq, Nat.zero_add]
def fCh (a b c d l : List (List Int)) (sp : List (List D)) : LSum := findS [1, 4, 5, 17, 18, 19] [13000] (fun i => stCh (mZ l) sp (mZ (l.map (wdv a b c d))) false 0 i) (fun i => stCh (mZ l) sp (mZ (l.map (wdv a b c d))) true 0 i) (l.length) (fun i => badC a b c d (l.getD i [])) .ret (.exit 0)
theorem kCh {a b c d l : List (List Int)} {sp : List (List D)} (ha : wid 3 a) (hb : wid 3 b) (hc : wid 3 c) (hd : wid 3 d) (hw : wid 3 l) (hn : l.length ≤ 9223372036854775807) (hth : l.all (thv a b c d) = true) (Q : Exit → X → Prop) (x : X) (h : fCh a b c d l sp Q x) : XWP Try.prog (.loop (bodyL Try.f37 0)) Q x := by
  refine xwp_findV (sw := []) (V := v_stCh (mZ l) sp (mZ (l.map (wdv a b c d)))) (VE := fun _ => v_stCh (mZ l) sp (mZ (l.map (wdv a b c d)))) mixed (v_stCh_ok (mZ l) sp (mZ (l.map (wdv a b c d)))) (fun _ => v_stCh_ok (mZ l) sp (mZ (l.map (wdv a b c d)))) _ _ _ _ _ _ (fun i hl => ⟨hkA band bor [] [], hkl_ok .nil, loops_nil rfl, fun N E h1 h2 => ?_⟩) ⟨hkA band bor [] [], hkl_ok .nil, loops_nil rfl, fun N E h1 => ?_⟩ Q x h
  · rw [rCh]
    have wi : IntKind.wrap .i64 ((i : Int) + 1) = ((i + 1 : Nat) : Int) := wrap_nat (n := 1) (by omega)
    have a0 : isJ [IntKind.i64] ((mZ l).getD i []) = true := isJ_mZ (j := 0) (n := 1) hw hl (by omega)
    have a1 : isJ [IntKind.i64] (List.drop 1 ((mZ l).getD i [])) = true := isJ_mZ (j := 1) (n := 1) hw hl (by omega)
    have a2 : isJ [IntKind.i64] (List.drop 2 ((mZ l).getD i [])) = true := isJ_mZ (j := 2) (n := 1) hw hl (by omega)
    have a3 : isJ [IntKind.i64, IntKind.i64, IntKind.i64] ((mZ l).getD i []) = true := isJ_mZ (j := 0) (n := 3) hw hl (by omega)
    have ht := all_getD hth hl
    have hwd : wid 3 (l.map (wdv a b c d)) := wid_wdv ha hb hc hd hth
    have hlm : i < (l.map (wdv a b c d)).length := by simpa using hl
    have b3 : isJ [IntKind.i64, IntKind.i64, IntKind.i64] ((mZ (l.map (wdv a b c d))).getD i []) = true := isJ_mZ (j := 0) (n := 3) hwd hlm (by omega)
    have hg : (l.map (wdv a b c d)).getD i [] = wdv a b c d (l.getD i []) := by simp [List.getD_eq_getElem?_getD, hl]
    have hlm' : i < ((mZ (l.map (wdv a b c d))) ++ []).length := by rw [List.append_nil, mZ_len]; exact hlm
    simp only [mZ_len, Int.ofNat_lt, hl, decide_true, cond_true, Int.natCast_nonneg, Bool.and_self, Int.toNat_natCast, a0, a1, a2, a3, List.drop_zero, hdJ_mZ0, hdJ_mZ, hdJ_mZt1, hdJ_mZt2, true_and, wi, addN0, List.append_nil, List.length_map, b3, hg]
    unfold badC at h1 h2
    cases hb : ((wdv a b c d (l.getD i [])).getD 1 0 != (l.getD i []).getD 2 0) with
    | true => exact h1 hb
    | false => exact h2 hb
  · rw [rCh]
    simp only [mZ_len, List.length_map, Int.ofNat_lt, Nat.lt_irrefl, decide_false, cond_false, true_and]
    exact h1
def fGo (a b c d l : List (List Int)) (sp : List (List D)) (id : Int) : LSum := findS [1, 2, 6, 7, 24, 25, 26] [15000] (fun i => stGo (mZ l) sp (mZ (l.map (wdv a b c d))) id false 0 i) (fun i => stGo (mZ l) sp (mZ (l.map (wdv a b c d))) id false 0 i) (l.length) (fun i => badG a b c d id (l.getD i [])) .ret (.exit 0)
theorem kGo {a b c d l : List (List Int)} {sp : List (List D)} (ha : wid 3 a) (hb : wid 3 b) (hc : wid 3 c) (hd : wid 3 d) (hw : wid 3 l) (hn : l.length ≤ 9223372036854775807) (hth : l.all (thv a b c d) = true) (id : Int) (Q : Exit → X → Prop) (x : X) (h : fGo a b c d l sp id Q x) : XWP Try.prog (.loop (bodyL Try.f35 0)) Q x := by
  refine xwp_findV (sw := []) (V := v_stGo (mZ l) sp (mZ (l.map (wdv a b c d))) id) (VE := fun _ => v_stGo (mZ l) sp (mZ (l.map (wdv a b c d))) id) mixed (v_stGo_ok (mZ l) sp (mZ (l.map (wdv a b c d))) id) (fun _ => v_stGo_ok (mZ l) sp (mZ (l.map (wdv a b c d))) id) _ _ _ _ _ _ (fun i hl => ⟨hkA band bor [] [], hkl_ok .nil, loops_nil rfl, fun N E h1 h2 => ?_⟩) ⟨hkA band bor [] [], hkl_ok .nil, loops_nil rfl, fun N E h1 => ?_⟩ Q x h
  · rw [rGo]
    have wi : IntKind.wrap .i64 ((i : Int) + 1) = ((i + 1 : Nat) : Int) := wrap_nat (n := 1) (by omega)
    have a0 : isJ [IntKind.i64] ((mZ l).getD i []) = true := isJ_mZ (j := 0) (n := 1) hw hl (by omega)
    have a1 : isJ [IntKind.i64] (List.drop 1 ((mZ l).getD i [])) = true := isJ_mZ (j := 1) (n := 1) hw hl (by omega)
    have a2 : isJ [IntKind.i64] (List.drop 2 ((mZ l).getD i [])) = true := isJ_mZ (j := 2) (n := 1) hw hl (by omega)
    have a3 : isJ [IntKind.i64, IntKind.i64, IntKind.i64] ((mZ l).getD i []) = true := isJ_mZ (j := 0) (n := 3) hw hl (by omega)
    have ht := all_getD hth hl
    have hwd : wid 3 (l.map (wdv a b c d)) := wid_wdv ha hb hc hd hth
    have hlm : i < (l.map (wdv a b c d)).length := by simpa using hl
    have b3 : isJ [IntKind.i64, IntKind.i64, IntKind.i64] ((mZ (l.map (wdv a b c d))).getD i []) = true := isJ_mZ (j := 0) (n := 3) hwd hlm (by omega)
    have hg : (l.map (wdv a b c d)).getD i [] = wdv a b c d (l.getD i []) := by simp [List.getD_eq_getElem?_getD, hl]
    have hlm' : i < ((mZ (l.map (wdv a b c d))) ++ []).length := by rw [List.append_nil, mZ_len]; exact hlm
    simp only [mZ_len, Int.ofNat_lt, hl, decide_true, cond_true, Int.natCast_nonneg, Bool.and_self, Int.toNat_natCast, a0, a1, a2, a3, List.drop_zero, hdJ_mZ0, hdJ_mZ, hdJ_mZt1, hdJ_mZt2, true_and, wi, addN0, List.append_nil, List.length_map, b3, hg]
    unfold badG at h1 h2
    revert h1 h2
    generalize ((wdv a b c d (l.getD i [])).getD 1 0 != (l.getD i []).getD 2 0) = q1
    generalize ((wdv a b c d (l.getD i [])).getD 2 0 != 0) = q2
    generalize ((wdv a b c d (l.getD i [])).getD 2 0 != IntKind.wrap .i64 (id + 1)) = q3
    cases q1 <;> cases q2 <;> cases q3 <;> intro h1 h2 <;> first | exact h1 rfl | exact h2 rfl
  · rw [rGo]
    simp only [mZ_len, List.length_map, Int.ofNat_lt, Nat.lt_irrefl, decide_false, cond_false, true_and]
    exact h1
def fWR (l : List (List Int)) (sp : List (List D)) (a b c : Int) : LSum := findS [0, 3, 4, 5, 6, 7] [4, 5, 18] (fun i => stWR (mZ l) sp a b c i) (fun i => stWQ (mZ l) sp a b c i) (l.length) (fun i => sameW a b c (l.getD i [])) .ret (.exit 0)
theorem kWR {l : List (List Int)} {sp : List (List D)} (a b c : Int) (hw : wid 3 l) (hn : l.length ≤ 9223372036854775807) (Q : Exit → X → Prop) (x : X) (h : fWR l sp a b c Q x) : XWP Try.prog (.loop (bodyL Try.f34 0)) Q x := by
  refine xwp_findV (sw := []) (V := v_stWR (mZ l) sp a b c) (VE := exV (v_stWQ (mZ l) sp a b c) (v_stWR (mZ l) sp a b c)) mixed (v_stWR_ok (mZ l) sp a b c) (exV_ok (v_stWQ_ok (mZ l) sp a b c) (v_stWR_ok (mZ l) sp a b c)) _ _ _ _ _ _ (fun i hl => ⟨hkA band bor [] [], hkl_ok .nil, loops_nil rfl, fun N E h1 h2 => ?_⟩) ⟨hkA band bor [] [], hkl_ok .nil, loops_nil rfl, fun N E h1 => ?_⟩ Q x h
  · rw [rWR]
    have wi : IntKind.wrap .i64 ((i : Int) + 1) = ((i + 1 : Nat) : Int) := wrap_nat (n := 1) (by omega)
    have a0 : isJ [IntKind.i64] ((mZ l).getD i []) = true := isJ_mZ (j := 0) (n := 1) hw hl (by omega)
    have a1 : isJ [IntKind.i64] (List.drop 1 ((mZ l).getD i [])) = true := isJ_mZ (j := 1) (n := 1) hw hl (by omega)
    have a2 : isJ [IntKind.i64] (List.drop 2 ((mZ l).getD i [])) = true := isJ_mZ (j := 2) (n := 1) hw hl (by omega)
    have a3 : isJ [IntKind.i64, IntKind.i64, IntKind.i64] ((mZ l).getD i []) = true := isJ_mZ (j := 0) (n := 3) hw hl (by omega)
    simp only [mZ_len, Int.ofNat_lt, hl, decide_true, cond_true, Int.natCast_nonneg, Bool.and_self, Int.toNat_natCast, a0, a1, a2, a3, List.drop_zero, hdJ_mZ0, hdJ_mZ, hdJ_mZt1, hdJ_mZt2, true_and, wi]
    unfold sameW at h1 h2
    revert h1 h2
    generalize ((l.getD i []).getD 0 0 == a) = q1
    generalize ((l.getD i []).getD 1 0 == b) = q2
    cases q1 <;> cases q2 <;> intro h1 h2 <;> first | exact h1 rfl | exact h2 rfl
  · rw [rWR]
    simp only [mZ_len, Int.ofNat_lt, Nat.lt_irrefl, decide_false, cond_false, true_and]
    exact h1
end Vm