/- What the functions of this text do, told by an interpreter that is proved right (YtidedfhlocodgaaVA to VD). My own work. -/
import Derived.Test.YtidedfhlocodgaaVStC
namespace Vm
open Go Go.Proofs
set_option linter.unusedSimpArgs false
set_option linter.unusedVariables false
theorem pM_ok {l : List (List Int)} {sp : List (List D)} (hw : wid 4 l) (hn : l.length ≤ 9223372036854775807) (Q : Exit → X → Prop) (x : X) (h : sumPM l sp Q x) : XWP Try.prog (.loop (bodyL Try.f38 0)) Q x := by
  obtain ⟨h1, h2, h3⟩ := h
  refine xwp_roundH (ι := Nat) (H := hkA band bor [(21, sIMay)] []) (fn := Try.f38) (i := 0) (ts := [0, 2, 5, 6, 7]) (ks := []) (hkl_ok (.cons oIMay .nil)) mixed (loops_nil rfl)
    (fun i => stPM (mZ l) sp i false) (fun i => i ≤ l.length ∧ pmayN l i = true) (fun i => l.length - i) 0 (vPM (mZ l) sp) (vPM (mZ l) sp) (fun i hp => ?_) ⟨Nat.zero_le _, rfl⟩ h1
  obtain ⟨hi, hj⟩ := hp
  show roundA band bor Try.prog _ _ Try.f38 0 _ _ _ _ _ _ _
  rw [ePMr]
  by_cases hl : i < l.length
  · have wi : IntKind.wrap .i64 ((i : Int) + 1) = ((i + 1 : Nat) : Int) := wrap_nat (n := 1) (by omega)
    have hj1 : isJ [IntKind.i64, IntKind.i64, IntKind.i64, IntKind.i64] ((mZ l).getD i []) = true := isJ_mZ (j := 0) (n := 4) hw hl (by omega)
    simp only [mZ_len, Int.ofNat_lt, hl, decide_true, cond_true, Int.natCast_nonneg, Bool.and_self, Int.toNat_natCast, hdJ_mZt1, hdJ_mZt2, hdJ_mZt3, hj1, List.drop_zero, hdJ_mZ0, true_and, wi]
    have hp : pI l.length i (l.getD i []) = (imay ((l.getD i []).getD 0 0) ((l.getD i []).getD 1 0) ((l.getD i []).getD 2 0) ((l.getD i []).getD 3 0) && !((l.getD i []).getD 0 0 == 4 && (decide ((l.getD i []).getD 2 0 ≤ (i : Int)) || decide ((l.getD i []).getD 2 0 > (l.length : Int))))) := rfl
    have bad : pI l.length i (l.getD i []) = false → pmayN l l.length = false := fun hb => by
      rw [Bool.eq_false_iff]; intro hc
      have := pmayN_le (i := i + 1) (by omega) hc
      rw [pmayN_s, hb] at this; simp at this
    have good : pI l.length i (l.getD i []) = true → pmayN l (i + 1) = true := fun hb => by rw [pmayN_s, hj, hb]; rfl
    generalize (l.getD i []).getD 0 0 = c at *
    generalize (l.getD i []).getD 1 0 = a at *
    generalize (l.getD i []).getD 2 0 = b at *
    generalize (l.getD i []).getD 3 0 = d at *
    have next : pI l.length i (l.getD i []) = true → ∃ p', l.length - p' < l.length - i ∧ (p' ≤ l.length ∧ pmayN l p' = true) ∧ stPM (mZ l) sp ((i + 1 : Nat) : Int) false = stPM (mZ l) sp (p' : Int) false := fun hb => ⟨i + 1, by omega, ⟨hl, good hb⟩, rfl⟩
    cases hm : imay c a b d with
    | false => exact h2 (bad (by rw [hp, hm]; rfl)) _
    | true =>
      cases hc : (c == 4) with
      | false => exact next (by rw [hp, hm, hc]; rfl)
      | true =>
        cases hb1 : decide (b ≤ (i : Int)) with
        | true => exact h2 (bad (by rw [hp, hm, hc, hb1]; rfl)) _
        | false =>
          cases hb2 : decide (b > (l.length : Int)) with
          | true => exact h2 (bad (by rw [hp, hm, hc, hb1, hb2]; rfl)) _
          | false => exact next (by rw [hp, hm, hc, hb1, hb2]; rfl)
  · have e : i = l.length := by omega
    subst e
    simp only [mZ_len, Int.ofNat_lt, Nat.lt_irrefl, decide_false, cond_false, true_and]
    exact h3 hj
theorem rPM_ok {l : List (List Int)} {sp : List (List D)} (hw : wid 4 l) (hn : l.length ≤ 9223372036854775807) (Q : Exit → X → Prop) (x : X) (h : sumRPM l sp Q x) : XWP Try.prog (.loop (bodyL Try.f39 0)) Q x := by
  obtain ⟨h1, h2, h3⟩ := h
  refine xwp_roundH (ι := Nat) (H := hkA band bor [(22, sIMay)] []) (fn := Try.f39) (i := 0) (ts := [0, 2, 3]) (ks := []) (hkl_ok (.cons oRIMay .nil)) mixed (loops_nil rfl)
    (fun i => stRPM (mZ l) sp i false) (fun i => i ≤ l.length ∧ pmayN l i = true) (fun i => l.length - i) 0 (vRPM (mZ l) sp) (vRPM (mZ l) sp) (fun i hp => ?_) ⟨Nat.zero_le _, rfl⟩ h1
  obtain ⟨hi, hj⟩ := hp
  show roundA band bor Try.prog _ _ Try.f39 0 _ _ _ _ _ _ _
  rw [eRPMr]
  by_cases hl : i < l.length
  · have wi : IntKind.wrap .i64 ((i : Int) + 1) = ((i + 1 : Nat) : Int) := wrap_nat (n := 1) (by omega)
    have hj1 : isJ [IntKind.i64, IntKind.i64, IntKind.i64, IntKind.i64] ((mZ l).getD i []) = true := isJ_mZ (j := 0) (n := 4) hw hl (by omega)
    have hj2 : isJ [IntKind.i64] ((mZ l).getD i []) = true := isJ_mZ1 (j := 0) hw hl (by omega)
    have hj3 : isJ [IntKind.i64] (((mZ l).getD i []).drop 2) = true := isJ_mZ1 (j := 2) hw hl (by omega)
    simp only [mZ_len, Int.ofNat_lt, hl, decide_true, cond_true, Int.natCast_nonneg, Bool.and_self, Int.toNat_natCast, hdJ_mZt1, hdJ_mZt2, hdJ_mZt3, hj1, hj2, hj3, List.drop_zero, hdJ_mZ0, hdJ_mZ, true_and, wi]
    have hp : pI l.length i (l.getD i []) = (imay ((l.getD i []).getD 0 0) ((l.getD i []).getD 1 0) ((l.getD i []).getD 2 0) ((l.getD i []).getD 3 0) && !((l.getD i []).getD 0 0 == 4 && (decide ((l.getD i []).getD 2 0 ≤ (i : Int)) || decide ((l.getD i []).getD 2 0 > (l.length : Int))))) := rfl
    have bad : pI l.length i (l.getD i []) = false → pmayN l l.length = false := fun hb => by
      rw [Bool.eq_false_iff]; intro hc
      have := pmayN_le (i := i + 1) (by omega) hc
      rw [pmayN_s, hb] at this; simp at this
    have good : pI l.length i (l.getD i []) = true → pmayN l (i + 1) = true := fun hb => by rw [pmayN_s, hj, hb]; rfl
    generalize (l.getD i []).getD 0 0 = c at *
    generalize (l.getD i []).getD 1 0 = a at *
    generalize (l.getD i []).getD 2 0 = b at *
    generalize (l.getD i []).getD 3 0 = d at *
    have next : pI l.length i (l.getD i []) = true → ∃ p', l.length - p' < l.length - i ∧ (p' ≤ l.length ∧ pmayN l p' = true) ∧ stRPM (mZ l) sp ((i + 1 : Nat) : Int) false = stRPM (mZ l) sp (p' : Int) false := fun hb => ⟨i + 1, by omega, ⟨hl, good hb⟩, rfl⟩
    cases hm : imay c a b d with
    | false => exact h2 (bad (by rw [hp, hm]; rfl)) _
    | true =>
      cases hc : (c == 4) with
      | false => exact next (by rw [hp, hm, hc]; rfl)
      | true =>
        cases hb1 : decide (b ≤ (i : Int)) with
        | true => exact h2 (bad (by rw [hp, hm, hc, hb1]; rfl)) _
        | false =>
          cases hb2 : decide (b > (l.length : Int)) with
          | true => exact h2 (bad (by rw [hp, hm, hc, hb1, hb2]; rfl)) _
          | false => exact next (by rw [hp, hm, hc, hb1, hb2]; rfl)
  · have e : i = l.length := by omega
    subst e
    simp only [mZ_len, Int.ofNat_lt, Nat.lt_irrefl, decide_false, cond_false, true_and]
    exact h3 hj
def sPMay : Spec := fun ds Q => match ds with | [.c (.s 0 4 R sp)] => cond (okZ 4 R) (Q (B (pmay (toZ R)))) False | _ => False
theorem oPMay : SpecOK Try.prog 38 sPMay := o_of Try.func38 (by kernel_rfl) rfl fun ds Q h => by
  unfold sPMay at h; split at h
  · rename_i R sp
    obtain ⟨h1, h2⟩ := cond_P h
    obtain ⟨e1, w1, n1⟩ := okZ_spec h1
    rw [e1]
    rw [← toZ_len R] at n1
    generalize toZ R = l at *
    refine ⟨_, ct_askL (l := []) (m := [(2, sumPM l sp)]) .nil mixed (loops1 rfl (by kernel_rfl) (pM_ok w1 n1)) Try.func38 rfl rfl rfl ?_, rfl, rfl, h2⟩
    rw [ePM, mZ_len]
    have e16 : decide ((l.length : Int) ≤ 16) = decide (l.length ≤ 16) := by congr 1; exact propext ⟨fun h => by omega, fun h => by omega⟩
    refine ⟨rfl, fun hb _ => ?_, fun hb => ?_⟩
    · simp [pmay, hb]
    · rw [e16]; simp [pmay, hb]
  · exact h.elim
theorem oRPMay : SpecOK Try.prog 39 sPMay := o_of Try.func39 (by kernel_rfl) rfl fun ds Q h => by
  unfold sPMay at h; split at h
  · rename_i R sp
    obtain ⟨h1, h2⟩ := cond_P h
    obtain ⟨e1, w1, n1⟩ := okZ_spec h1
    rw [e1]
    rw [← toZ_len R] at n1
    generalize toZ R = l at *
    refine ⟨_, ct_askL (l := []) (m := [(2, sumRPM l sp)]) .nil mixed (loops1 rfl (by kernel_rfl) (rPM_ok w1 n1)) Try.func39 rfl rfl rfl ?_, rfl, rfl, h2⟩
    rw [eRPM, mZ_len]
    have e16 : decide ((l.length : Int) ≤ 16) = decide (l.length ≤ 16) := by congr 1; exact propext ⟨fun h => by omega, fun h => by omega⟩
    refine ⟨rfl, fun hb _ => ?_, fun hb => ?_⟩
    · simp [pmay, hb]
    · rw [e16]; simp [pmay, hb]
  · exact h.elim
/-! ### starts -/
theorem oId : SpecOK Try.prog 54 (sB idm) := oB Try.func54 (by kernel_rfl) rfl fun x => ct_ask (.cons oIn .nil) mixed Try.func54 rfl rfl rfl (by
  have e : ask Try.prog [(60, sIn)] Try.f54 [I x] (fun r => r = B (idm x)) = (B (idm x) = B (idm x)) := by kernel_rfl
  rw [e])
theorem oRId : SpecOK Try.prog 56 (sB idm) := oB Try.func56 (by kernel_rfl) rfl fun x => ct_ask (.cons oUp .nil) mixed Try.func56 rfl rfl rfl (by
  have e : ask Try.prog [(49, sUp)] Try.f56 [I x] (fun r => r = B (idm x)) = (B (idm x) = B (idm x)) := by kernel_rfl
  rw [e])
def und (a b : Int) : Bool := bor a b == b
def sUnd : Spec := fun ds Q => match ds with | [.c (.v (.int .i64 a)), .c (.v (.int .i64 b))] => Q (B (und a b)) | _ => False
theorem eUnd (o : Int → Int → Int) (a b : Int) (K : DV → Prop) : (askA band o Try.prog [] [] Try.f55 [I a, I b] K) = (K (DV.c (D.v (Value.bool (o a b == b))))) := by kernel_rfl
theorem eRUnd (o : Int → Int → Int) (a b : Int) (K : DV → Prop) : (askA band o Try.prog [] [] Try.f57 [I a, I b] K) = (K (DV.c (D.v (Value.bool (o a b == b))))) := by kernel_rfl
theorem oUnd : SpecOK Try.prog 55 sUnd := o_of Try.func55 (by kernel_rfl) rfl fun ds Q h => by
  unfold sUnd at h; split at h
  · refine ⟨_, ct_askL (l := []) (m := []) .nil mixed (loops_nil rfl) Try.func55 rfl rfl rfl (by
      show askA band bor Try.prog _ _ Try.f55 _ _
      rw [eUnd]; rfl), rfl, rfl, h⟩
  · exact h.elim
theorem oRUnd : SpecOK Try.prog 57 sUnd := o_of Try.func57 (by kernel_rfl) rfl fun ds Q h => by
  unfold sUnd at h; split at h
  · refine ⟨_, ct_askL (l := []) (m := []) .nil mixed (loops_nil rfl) Try.func57 rfl rfl rfl (by
      show askA band bor Try.prog _ _ Try.f57 _ _
      rw [eRUnd]; rfl), rfl, rfl, h⟩
  · exact h.elim
def smay (i g c : Int) (l : List (List Int)) : Bool := idm i && (lab g && (lab c && (und g c && pmay l)))
abbrev dStart (i g c : Int) (R sp : List (List D)) : DV := .agg [vi i, vi g, vi c, .s 0 4 R sp]
theorem eSMay (i g c : Int) (R sp : List (List D)) (K : DV → Prop) : (ask Try.prog [(54, sB idm), (45, sB lab), (55, sUnd), (38, sPMay)] Try.f28 [dStart i g c R sp] K) = (bif idm i then bif lab g then bif lab c then bif und g c then bif okZ (4) R then K (DV.c (D.v (Value.bool (pmay (toZ R))))) else False else K (DV.c (D.v (Value.bool false))) else K (DV.c (D.v (Value.bool false))) else K (DV.c (D.v (Value.bool false))) else K (DV.c (D.v (Value.bool false)))) := by kernel_rfl
theorem eRSMay (i g c : Int) (R sp : List (List D)) (K : DV → Prop) : (ask Try.prog [(56, sB idm), (48, sB lab), (57, sUnd), (39, sPMay)] Try.f29 [dStart i g c R sp] K) = (bif idm i then bif lab g then bif lab c then bif und g c then bif okZ (4) R then K (DV.c (D.v (Value.bool (pmay (toZ R))))) else False else K (DV.c (D.v (Value.bool false))) else K (DV.c (D.v (Value.bool false))) else K (DV.c (D.v (Value.bool false))) else K (DV.c (D.v (Value.bool false)))) := by kernel_rfl
def sSMay : Spec := fun ds Q => match ds with | [.agg [.v (.int .i64 i), .v (.int .i64 g), .v (.int .i64 c), .s 0 4 R sp]] => cond (okZ 4 R) (Q (B (smay i g c (toZ R)))) False | _ => False
theorem eSNew (i g c : Int) (R sp : List (List D)) (K : DV → Prop) : (ask Try.prog [(28, sSMay), (51, sCloneInsts)] Try.f25 [dStart i g c R sp] K) = (bif okZ (4) R then bif !smay i g c (toZ R) then K (DV.tup [DV.agg [D.v (Value.int IntKind.i64 (0)), D.v (Value.int IntKind.i64 (0)), D.v (Value.int IntKind.i64 (0)), D.v (Value.slice none (0) (0)), D.v (Value.int IntKind.i64 (0)), D.v (Value.int IntKind.i64 (0)), D.v (Value.int IntKind.i64 (0)), D.v (Value.int IntKind.i64 (0)), D.v (Value.int IntKind.i64 (0)), D.v (Value.int IntKind.i64 (0)), D.v (Value.slice none (0) (0)), D.v (Value.slice none (0) (0)), D.v (Value.int IntKind.i64 (0)), D.v (Value.int IntKind.i64 (0)), D.v (Value.int IntKind.i64 (0)), D.v (Value.int IntKind.i64 (0)), D.v (Value.int IntKind.i64 (0))], DV.c (D.v (Value.int IntKind.i64 (1100)))]) else bif allV R && decide (List.length R ≤ 4398046510977) then bif decide (List.length R ≤ List.length (R ++ [])) && List.all (R ++ []) fun r => List.all r D.keeps then K (DV.tup [DV.agg [D.v (Value.int IntKind.i64 i), D.v (Value.int IntKind.i64 g), D.v (Value.int IntKind.i64 c), D.s (1) (4) (List.take (List.length R) (R ++ [])) (List.take (List.length R + 0 - List.length R) (List.drop (List.length R) (R ++ []))), D.v (Value.int IntKind.i64 (0)), D.v (Value.int IntKind.i64 (0)), D.v (Value.int IntKind.i64 (0)), D.v (Value.int IntKind.i64 (0)), D.v (Value.int IntKind.i64 (0)), D.v (Value.int IntKind.i64 (0)), D.v (Value.slice none (0) (0)), D.v (Value.slice none (0) (0)), D.v (Value.int IntKind.i64 (0)), D.v (Value.int IntKind.i64 (0)), D.v (Value.int IntKind.i64 (0)), D.v (Value.int IntKind.i64 (0)), D.v (Value.int IntKind.i64 (0))], DV.c (D.v (Value.int IntKind.i64 (0)))]) else False else False else False) := by kernel_rfl
theorem eRSNew (i g c : Int) (R sp : List (List D)) (K : DV → Prop) : (ask Try.prog [(29, sSMay)] Try.f26 [dStart i g c R sp] K) = (bif okZ (4) R then bif !smay i g c (toZ R) then K (DV.tup [DV.agg [D.v (Value.int IntKind.i64 (0)), D.v (Value.int IntKind.i64 (0)), D.v (Value.int IntKind.i64 (0)), D.v (Value.slice none (0) (0)), D.v (Value.int IntKind.i64 (0)), D.v (Value.int IntKind.i64 (0)), D.v (Value.int IntKind.i64 (0)), D.v (Value.int IntKind.i64 (0)), D.v (Value.int IntKind.i64 (0)), D.v (Value.int IntKind.i64 (0)), D.v (Value.slice none (0) (0)), D.v (Value.slice none (0) (0)), D.v (Value.int IntKind.i64 (0)), D.v (Value.int IntKind.i64 (0)), D.v (Value.int IntKind.i64 (0)), D.v (Value.int IntKind.i64 (0)), D.v (Value.int IntKind.i64 (0))], DV.c (D.v (Value.int IntKind.i64 (1100)))]) else bif allV R then bif true && (decide ((0 + List.length R) * 32 ≤ 140737488355328) && decide (0 + List.length R ≤ 9223372036854775807)) then bif decide (0 + List.length R ≤ List.length ([] ++ R)) && List.all ([] ++ R) fun r => List.all r D.keeps then K (DV.tup [DV.agg [D.v (Value.int IntKind.i64 i), D.v (Value.int IntKind.i64 g), D.v (Value.int IntKind.i64 c), D.s (1) (4) (List.take (0 + List.length R) ([] ++ R)) (List.take (0 + List.length R - (0 + List.length R)) (List.drop (0 + List.length R) ([] ++ R))), D.v (Value.int IntKind.i64 (0)), D.v (Value.int IntKind.i64 (0)), D.v (Value.int IntKind.i64 (0)), D.v (Value.int IntKind.i64 (0)), D.v (Value.int IntKind.i64 (0)), D.v (Value.int IntKind.i64 (0)), D.v (Value.slice none (0) (0)), D.v (Value.slice none (0) (0)), D.v (Value.int IntKind.i64 (0)), D.v (Value.int IntKind.i64 (0)), D.v (Value.int IntKind.i64 (0)), D.v (Value.int IntKind.i64 (0)), D.v (Value.int IntKind.i64 (0))], DV.c (D.v (Value.int IntKind.i64 (0)))]) else False else False else False else False) := by kernel_rfl
end Vm
