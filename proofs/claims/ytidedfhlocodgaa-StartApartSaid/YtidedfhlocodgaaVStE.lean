/- What the functions of this text do, told by an interpreter that is proved right (YtidedfhlocodgaaVA to VD). My own work. -/
import Derived.Test.YtidedfhlocodgaaVStD
import Derived.Test.YtidedfhlocodgaaVD
namespace Vm
open Go Go.Proofs
set_option linter.unusedSimpArgs false
set_option linter.unusedVariables false
theorem cond_eq_true_iff' {b : Bool} {p : Prop} (h : b = true) : (bif b then p else False) ↔ p := by rw [h]; exact Iff.rfl
theorem bifK (p q : Bool) (x : DV) : (bif p then (DV.c (.v (.bool q)) = x) else (DV.c (.v (.bool false)) = x)) = (DV.c (.v (.bool (p && q))) = x) := by cases p <;> rfl
theorem oSMay : SpecOK Try.prog 28 sSMay := o_of Try.func28 (by kernel_rfl) rfl fun ds Q h => by
  unfold sSMay at h; split at h
  · obtain ⟨h1, h2⟩ := cond_P h
    refine ⟨_, ct_ask (.cons oId (.cons oLab (.cons oUnd (.cons oPMay .nil)))) mixed Try.func28 rfl rfl rfl ?_, rfl, rfl, h2⟩
    rw [eSMay, h1, cond_true]
    simp only [bifK]
    rfl
  · exact h.elim
theorem oRSMay : SpecOK Try.prog 29 sSMay := o_of Try.func29 (by kernel_rfl) rfl fun ds Q h => by
  unfold sSMay at h; split at h
  · obtain ⟨h1, h2⟩ := cond_P h
    refine ⟨_, ct_ask (.cons oRId (.cons oRLab (.cons oRUnd (.cons oRPMay .nil)))) mixed Try.func29 rfl rfl rfl ?_, rfl, rfl, h2⟩
    rw [eRSMay, h1, cond_true]
    simp only [bifK]
    rfl
  · exact h.elim
abbrev nilD : D := .v (.slice none 0 0)
abbrev dSess (i g c : Int) (p : D) : DV := .agg [vi i, vi g, vi c, p, vi 0, vi 0, vi 0, vi 0, vi 0, vi 0, nilD, nilD, vi 0, vi 0, vi 0, vi 0, vi 0]
def sSNew : Spec := fun ds Q => match ds with
  | [.agg [.v (.int .i64 i), .v (.int .i64 g), .v (.int .i64 c), .s 0 4 R sp]] => cond (okZ 4 R && decide (R.length ≤ 4398046510977)) (cond (smay i g c (toZ R)) (Q (.tup [dSess i g c (.s 1 4 R []), I 0])) (Q (.tup [dSess 0 0 0 nilD, I 1100]))) False
  | _ => False
theorem pure_sess {i g c : Int} {R : List (List D)} (h : allV R = true) : (DV.tup [dSess i g c (.s 1 4 R []), I 0]).pureOwn = true := by
  simp [DV.pureOwn, DV.pureOwn.go, DV.pure1, D.pureOwn, ownL, ownLL_of h, ownLL]
theorem oSNew : SpecOK Try.prog 25 sSNew := o_of Try.func25 (by kernel_rfl) rfl fun ds Q h => by
  unfold sSNew at h; split at h
  · rename_i i g c R sp
    obtain ⟨h1, h2⟩ := cond_P h
    simp only [Bool.and_eq_true, decide_eq_true_eq] at h1
    obtain ⟨hR, hl⟩ := h1
    cases hm : smay i g c (toZ R) with
    | true =>
      rw [hm] at h2
      refine ⟨_, ct_ask (.cons oSMay (.cons oCloneInsts .nil)) mixed Try.func25 rfl rfl rfl ?_, pure_sess (allV_ok hR), rfl, h2⟩
      rw [eSNew]
      simp only [hR, hl, allV_ok hR, hm, keeps_of (allV_ok hR), decide_true, Bool.and_self, Bool.not_true, cond_true, cond_false, List.append_nil, Nat.le_refl, List.take_length, Nat.add_zero, Nat.sub_self, List.take_zero]
    | false =>
      rw [hm] at h2
      refine ⟨_, ct_ask (.cons oSMay (.cons oCloneInsts .nil)) mixed Try.func25 rfl rfl rfl ?_, rfl, rfl, h2⟩
      rw [eSNew]
      simp only [hR, hm, Bool.not_false, cond_true]
  · exact h.elim
theorem oRSNew : SpecOK Try.prog 26 sSNew := o_of Try.func26 (by kernel_rfl) rfl fun ds Q h => by
  unfold sSNew at h; split at h
  · rename_i i g c R sp
    obtain ⟨h1, h2⟩ := cond_P h
    simp only [Bool.and_eq_true, decide_eq_true_eq] at h1
    obtain ⟨hR, hl⟩ := h1
    cases hm : smay i g c (toZ R) with
    | true =>
      rw [hm] at h2
      refine ⟨_, ct_ask (.cons oRSMay .nil) mixed Try.func26 rfl rfl rfl ?_, pure_sess (allV_ok hR), rfl, h2⟩
      rw [eRSNew]
      have g1 : R.length * 32 ≤ 140737488355328 := by omega
      have g2 : R.length ≤ 9223372036854775807 := by omega
      simp only [hR, g1, g2, allV_ok hR, hm, keeps_of (allV_ok hR), decide_true, Bool.and_self, Bool.not_true, cond_true, cond_false, List.nil_append, Nat.le_refl, List.take_length, Nat.zero_add, Nat.sub_self, List.take_zero]
    | false =>
      rw [hm] at h2
      refine ⟨_, ct_ask (.cons oRSMay .nil) mixed Try.func26 rfl rfl rfl ?_, rfl, rfl, h2⟩
      rw [eRSNew]
      simp only [hR, hm, Bool.not_false, cond_true]
  · exact h.elim
def sameSess (a b : List Int) (p p' rd rd' wr wr' : List (List Int)) : Bool :=
  (a.getD 0 0 == b.getD 0 0) && ((a.getD 1 0 == b.getD 1 0) && ((a.getD 2 0 == b.getD 2 0) && (decide (p = p') && ((a.getD 3 0 == b.getD 3 0) && ((a.getD 4 0 == b.getD 4 0) && (eqI [a.getD 5 0, a.getD 6 0, a.getD 7 0, a.getD 8 0] [b.getD 5 0, b.getD 6 0, b.getD 7 0, b.getD 8 0] && (decide (rd = rd') && (decide (wr = wr') && ((a.getD 9 0 == b.getD 9 0) && ((a.getD 10 0 == b.getD 10 0) && ((a.getD 11 0 == b.getD 11 0) && ((a.getD 12 0 == b.getD 12 0) && (a.getD 13 0 == b.getD 13 0)))))))))))))
def sSess : Spec := fun ds Q => match ds with
  | [.agg [.v (.int .i64 a0), .v (.int .i64 a1), .v (.int .i64 a2), .s 0 4 p ps, .v (.int .i64 a3), .v (.int .i64 a4), .v (.int .i64 a5), .v (.int .i64 a6), .v (.int .i64 a7), .v (.int .i64 a8), .s 0 3 rd rds, .s 0 3 wr wrs, .v (.int .i64 a9), .v (.int .i64 a10), .v (.int .i64 a11), .v (.int .i64 a12), .v (.int .i64 a13)],
     .agg [.v (.int .i64 b0), .v (.int .i64 b1), .v (.int .i64 b2), .s 0 4 p' ps', .v (.int .i64 b3), .v (.int .i64 b4), .v (.int .i64 b5), .v (.int .i64 b6), .v (.int .i64 b7), .v (.int .i64 b8), .s 0 3 rd' rds', .s 0 3 wr' wrs', .v (.int .i64 b9), .v (.int .i64 b10), .v (.int .i64 b11), .v (.int .i64 b12), .v (.int .i64 b13)]] =>
    cond ((okZ 4 p && okZ 4 p') && ((okZ 3 rd && okZ 3 rd') && (okZ 3 wr && okZ 3 wr'))) (Q (B (sameSess [a0, a1, a2, a3, a4, a5, a6, a7, a8, a9, a10, a11, a12, a13] [b0, b1, b2, b3, b4, b5, b6, b7, b8, b9, b10, b11, b12, b13] (toZ p) (toZ p') (toZ rd) (toZ rd') (toZ wr) (toZ wr')))) False
  | _ => False
theorem eSess (a0 a1 a2 a3 a4 a5 a6 a7 a8 a9 a10 a11 a12 a13 b0 b1 b2 b3 b4 b5 b6 b7 b8 b9 b10 b11 b12 b13 : Int) (p ps rd rds wr wrs p' ps' rd' rds' wr' wrs' : List (List D)) (K : DV → Prop) : (ask Try.prog [(37, sSameInsts), (52, sSameReads), (53, sSameWrites)] Try.f27 [.agg [vi a0, vi a1, vi a2, .s 0 4 p ps, vi a3, vi a4, vi a5, vi a6, vi a7, vi a8, .s 0 3 rd rds, .s 0 3 wr wrs, vi a9, vi a10, vi a11, vi a12, vi a13], .agg [vi b0, vi b1, vi b2, .s 0 4 p' ps', vi b3, vi b4, vi b5, vi b6, vi b7, vi b8, .s 0 3 rd' rds', .s 0 3 wr' wrs', vi b9, vi b10, vi b11, vi b12, vi b13]] K) = (bif a0 == b0 then bif a1 == b1 then bif a2 == b2 then bif okZ (4) p && okZ (4) p' then bif decide (toZ p = toZ p') then bif a3 == b3 then bif a4 == b4 then bif eqI [a5, a6, a7, a8] [b5, b6, b7, b8] then bif okZ (3) rd && okZ (3) rd' then bif decide (toZ rd = toZ rd') then bif okZ (3) wr && okZ (3) wr' then bif decide (toZ wr = toZ wr') then bif a9 == b9 then bif a10 == b10 then bif a11 == b11 then bif a12 == b12 then K (DV.c (D.v (Value.bool (a13 == b13)))) else K (DV.c (D.v (Value.bool false))) else K (DV.c (D.v (Value.bool false))) else K (DV.c (D.v (Value.bool false))) else K (DV.c (D.v (Value.bool false))) else K (DV.c (D.v (Value.bool false))) else False else K (DV.c (D.v (Value.bool false))) else False else K (DV.c (D.v (Value.bool false))) else K (DV.c (D.v (Value.bool false))) else K (DV.c (D.v (Value.bool false))) else K (DV.c (D.v (Value.bool false))) else False else K (DV.c (D.v (Value.bool false))) else K (DV.c (D.v (Value.bool false))) else K (DV.c (D.v (Value.bool false)))) := by kernel_rfl
theorem oSess : SpecOK Try.prog 27 sSess := o_of Try.func27 (by kernel_rfl) rfl fun ds Q h => by
  unfold sSess at h; split at h
  · obtain ⟨h1, h2⟩ := cond_P h
    simp only [Bool.and_eq_true] at h1
    obtain ⟨⟨p1, p2⟩, ⟨q1, q2⟩, r1, r2⟩ := h1
    refine ⟨_, ct_ask (.cons oSameInsts (.cons oSameReads (.cons oSameWrites .nil))) mixed Try.func27 rfl rfl rfl ?_, rfl, rfl, h2⟩
    rw [eSess]
    simp only [p1, p2, q1, q2, r1, r2, Bool.and_self, cond_true, bifK]
    rfl
  · exact h.elim
/-! ### spoiling; what every program answers -/
theorem eSpoil1 (a0 a1 a2 a3 a4 a5 a6 a7 a8 a9 a10 a11 a12 a13 : Int) (R sp : List (List D)) (K : DV → Prop) : (evp Try.prog { hkA band bor [(40, sSpoilInsts), (58, sSpoilReads), (59, sSpoilWrites)] [] with give := fun _ => true } 200 (bodyOf Try.f30) (finX Try.prog Try.f30 K) (entryX Try.f30.ntmps [.agg [vi a0, vi a1, vi a2, .s 1 4 R sp, vi a3, vi a4, vi a5, vi a6, vi a7, vi a8, nilD, nilD, vi a9, vi a10, vi a11, vi a12, vi a13]])) = (bif decide (List.length R ≤ List.length (R ++ sp)) && List.all (R ++ sp) fun r => List.all r D.keeps then bif allV (R ++ sp) then bif (List.all (List.take (List.length R) (R ++ sp) ++ List.take (List.length R + List.length sp - List.length R) (List.drop (List.length R) (R ++ sp))) fun r => Nat.beq (List.length r) (4) && List.all r isI) && Nat.ble (List.length (List.take (List.length R) (R ++ sp) ++ List.take (List.length R + List.length sp - List.length R) (List.drop (List.length R) (R ++ sp)))) (OfNat.ofNat (9223372036854775807)) then K (DV.tup []) else False else False else False) := by kernel_rfl
theorem eSpoil0 (a0 a1 a2 a3 a4 a5 a6 a7 a8 a9 a10 a11 a12 a13 : Int) (K : DV → Prop) : (evp Try.prog { hkA band bor [(40, sSpoilInsts), (58, sSpoilReads), (59, sSpoilWrites)] [] with give := fun _ => true } 200 (bodyOf Try.f30) (finX Try.prog Try.f30 K) (entryX Try.f30.ntmps [.agg [vi a0, vi a1, vi a2, nilD, vi a3, vi a4, vi a5, vi a6, vi a7, vi a8, nilD, nilD, vi a9, vi a10, vi a11, vi a12, vi a13]])) = (K (DV.tup [])) := by kernel_rfl
theorem eAwS (K : DV → Prop) : (ask Try.prog [(25, sSNew), (20, sI), (27, sSess), (28, sSMay)] Try.f32 [] K) = (K (DV.c (D.v (Value.bool true)))) := by kernel_rfl
def sT : Spec := fun ds Q => match ds with | [] => Q (B true) | _ => False
end Vm
