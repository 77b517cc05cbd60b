/- What the functions of this text do, told by an interpreter that is proved right (YtdfehiebnempaaaVA to VD). My own work. -/
import Derived.Test.YtdfehiebnempaaaVArC
namespace Vm
open Go Go.Proofs
set_option linter.unusedSimpArgs false
set_option linter.unusedVariables false
set_option maxRecDepth 100000
/-! ### words at their places -/
def selA {α : Type} (lv : Int) (a b c d : α) : α := bif decide (lv = 0) then a else bif decide (lv = 1) then b else bif decide (lv = 2) then c else d
def wrd (l : List (List Int)) (num : Int) : List Int := l.getD num.toNat []
def dW (r : List Int) : DV := .agg [vi (r.getD 0 0), vi (r.getD 1 0), vi (r.getD 2 0)]
abbrev nilD : D := .v (.slice none 0 0)
abbrev dNil : DV := .agg [nilD, nilD, nilD, nilD]
abbrev dO (R0 R1 R2 R3 : List (List D)) : DV := .agg [.s 1 3 R0 [], .s 1 3 R1 [], .s 1 3 R2 [], .s 1 3 R3 []]
def gotA (a b c d : List (List Int)) (lv num : Int) (Q : DV → Prop) : Prop := cond (amay a b c d) (cond (thr a.length b.length c.length d.length lv num) (Q (.tup [dW (wrd (selA lv a b c d) num), I 0])) (Q (.tup [.agg [vi 0, vi 0, vi 0], I 400]))) (Q (.tup [.agg [vi 0, vi 0, vi 0], I 400]))
def sGet : Spec := fun ds Q => match ds with | [.agg [.s 0 3 R0 p0, .s 0 3 R1 p1, .s 0 3 R2 p2, .s 0 3 R3 p3], .c (.v (.int .i64 lv)), .c (.v (.int .i64 num))] => cond (okA R0 R1 R2 R3) (gotA (toZ R0) (toZ R1) (toZ R2) (toZ R3) lv num Q) False | _ => False
theorem eGet (R0 p0 R1 p1 R2 p2 R3 p3 : List (List D)) (lv num : Int) (K : DV → Prop) : (ask Try.prog [(28, sAMay), (59, sThr)] Try.f22 [dA R0 p0 R1 p1 R2 p2 R3 p3, I lv, I num] K) = (bif okA R0 R1 R2 R3 then bif !amay (toZ R0) (toZ R1) (toZ R2) (toZ R3) then K (DV.tup [DV.agg [D.v (Value.int IntKind.i64 (0)), D.v (Value.int IntKind.i64 (0)), D.v (Value.int IntKind.i64 (0))], DV.c (D.v (Value.int IntKind.i64 (400)))]) else bif !thr (List.length R0) (List.length R1) (List.length R2) (List.length R3) lv num then K (DV.tup [DV.agg [D.v (Value.int IntKind.i64 (0)), D.v (Value.int IntKind.i64 (0)), D.v (Value.int IntKind.i64 (0))], DV.c (D.v (Value.int IntKind.i64 (400)))]) else bif decide (lv = 0) then bif decide (0 ≤ num) && decide (num < @Nat.cast Int _ (List.length R0)) then bif isJ [IntKind.i64, IntKind.i64, IntKind.i64] (List.drop (0) (List.getD R0 (Int.toNat num) [])) then K (DV.tup [DV.agg [D.v (Value.int IntKind.i64 (hdJ (List.drop (0) (List.getD R0 (Int.toNat num) [])))), D.v (Value.int IntKind.i64 (hdJ (List.tail (List.drop (0) (List.getD R0 (Int.toNat num) []))))), D.v (Value.int IntKind.i64 (hdJ (List.tail (List.tail (List.drop (0) (List.getD R0 (Int.toNat num) []))))))], DV.c (D.v (Value.int IntKind.i64 (0)))]) else False else False else bif decide (lv = 1) then bif decide (0 ≤ num) && decide (num < @Nat.cast Int _ (List.length R1)) then bif isJ [IntKind.i64, IntKind.i64, IntKind.i64] (List.drop (0) (List.getD R1 (Int.toNat num) [])) then K (DV.tup [DV.agg [D.v (Value.int IntKind.i64 (hdJ (List.drop (0) (List.getD R1 (Int.toNat num) [])))), D.v (Value.int IntKind.i64 (hdJ (List.tail (List.drop (0) (List.getD R1 (Int.toNat num) []))))), D.v (Value.int IntKind.i64 (hdJ (List.tail (List.tail (List.drop (0) (List.getD R1 (Int.toNat num) []))))))], DV.c (D.v (Value.int IntKind.i64 (0)))]) else False else False else bif decide (lv = 2) then bif decide (0 ≤ num) && decide (num < @Nat.cast Int _ (List.length R2)) then bif isJ [IntKind.i64, IntKind.i64, IntKind.i64] (List.drop (0) (List.getD R2 (Int.toNat num) [])) then K (DV.tup [DV.agg [D.v (Value.int IntKind.i64 (hdJ (List.drop (0) (List.getD R2 (Int.toNat num) [])))), D.v (Value.int IntKind.i64 (hdJ (List.tail (List.drop (0) (List.getD R2 (Int.toNat num) []))))), D.v (Value.int IntKind.i64 (hdJ (List.tail (List.tail (List.drop (0) (List.getD R2 (Int.toNat num) []))))))], DV.c (D.v (Value.int IntKind.i64 (0)))]) else False else False else bif decide (lv = 3) then bif decide (0 ≤ num) && decide (num < @Nat.cast Int _ (List.length R3)) then bif isJ [IntKind.i64, IntKind.i64, IntKind.i64] (List.drop (0) (List.getD R3 (Int.toNat num) [])) then K (DV.tup [DV.agg [D.v (Value.int IntKind.i64 (hdJ (List.drop (0) (List.getD R3 (Int.toNat num) [])))), D.v (Value.int IntKind.i64 (hdJ (List.tail (List.drop (0) (List.getD R3 (Int.toNat num) []))))), D.v (Value.int IntKind.i64 (hdJ (List.tail (List.tail (List.drop (0) (List.getD R3 (Int.toNat num) []))))))], DV.c (D.v (Value.int IntKind.i64 (0)))]) else False else False else False else False) := by kernel_rfl
theorem eRGet (R0 p0 R1 p1 R2 p2 R3 p3 : List (List D)) (lv num : Int) (K : DV → Prop) : (ask Try.prog [(29, sAMay), (60, sRThr)] Try.f23 [dA R0 p0 R1 p1 R2 p2 R3 p3, I lv, I num] K) = (bif okA R0 R1 R2 R3 then bif !amay (toZ R0) (toZ R1) (toZ R2) (toZ R3) then K (DV.tup [DV.agg [D.v (Value.int IntKind.i64 (0)), D.v (Value.int IntKind.i64 (0)), D.v (Value.int IntKind.i64 (0))], DV.c (D.v (Value.int IntKind.i64 (400)))]) else bif !thr (List.length R0) (List.length R1) (List.length R2) (List.length R3) lv num then K (DV.tup [DV.agg [D.v (Value.int IntKind.i64 (0)), D.v (Value.int IntKind.i64 (0)), D.v (Value.int IntKind.i64 (0))], DV.c (D.v (Value.int IntKind.i64 (400)))]) else bif decide (lv = 0) then bif decide (0 ≤ num) && decide (num < @Nat.cast Int _ (List.length R0)) then bif isJ [IntKind.i64, IntKind.i64, IntKind.i64] (List.drop (0) (List.getD R0 (Int.toNat num) [])) then K (DV.tup [DV.agg [D.v (Value.int IntKind.i64 (hdJ (List.drop (0) (List.getD R0 (Int.toNat num) [])))), D.v (Value.int IntKind.i64 (hdJ (List.tail (List.drop (0) (List.getD R0 (Int.toNat num) []))))), D.v (Value.int IntKind.i64 (hdJ (List.tail (List.tail (List.drop (0) (List.getD R0 (Int.toNat num) []))))))], DV.c (D.v (Value.int IntKind.i64 (0)))]) else False else False else bif decide (lv = 1) then bif decide (0 ≤ num) && decide (num < @Nat.cast Int _ (List.length R1)) then bif isJ [IntKind.i64, IntKind.i64, IntKind.i64] (List.drop (0) (List.getD R1 (Int.toNat num) [])) then K (DV.tup [DV.agg [D.v (Value.int IntKind.i64 (hdJ (List.drop (0) (List.getD R1 (Int.toNat num) [])))), D.v (Value.int IntKind.i64 (hdJ (List.tail (List.drop (0) (List.getD R1 (Int.toNat num) []))))), D.v (Value.int IntKind.i64 (hdJ (List.tail (List.tail (List.drop (0) (List.getD R1 (Int.toNat num) []))))))], DV.c (D.v (Value.int IntKind.i64 (0)))]) else False else False else bif decide (lv = 2) then bif decide (0 ≤ num) && decide (num < @Nat.cast Int _ (List.length R2)) then bif isJ [IntKind.i64, IntKind.i64, IntKind.i64] (List.drop (0) (List.getD R2 (Int.toNat num) [])) then K (DV.tup [DV.agg [D.v (Value.int IntKind.i64 (hdJ (List.drop (0) (List.getD R2 (Int.toNat num) [])))), D.v (Value.int IntKind.i64 (hdJ (List.tail (List.drop (0) (List.getD R2 (Int.toNat num) []))))), D.v (Value.int IntKind.i64 (hdJ (List.tail (List.tail (List.drop (0) (List.getD R2 (Int.toNat num) []))))))], DV.c (D.v (Value.int IntKind.i64 (0)))]) else False else False else bif decide (lv = 3) then bif decide (0 ≤ num) && decide (num < @Nat.cast Int _ (List.length R3)) then bif isJ [IntKind.i64, IntKind.i64, IntKind.i64] (List.drop (0) (List.getD R3 (Int.toNat num) [])) then K (DV.tup [DV.agg [D.v (Value.int IntKind.i64 (hdJ (List.drop (0) (List.getD R3 (Int.toNat num) [])))), D.v (Value.int IntKind.i64 (hdJ (List.tail (List.drop (0) (List.getD R3 (Int.toNat num) []))))), D.v (Value.int IntKind.i64 (hdJ (List.tail (List.tail (List.drop (0) (List.getD R3 (Int.toNat num) []))))))], DV.c (D.v (Value.int IntKind.i64 (0)))]) else False else False else False else False) := by kernel_rfl
theorem thr_spec {n0 n1 n2 n3 : Nat} {lv num : Int} (h : thr n0 n1 n2 n3 lv num = true) : ∃ i : Nat, num = i ∧ (lv = 0 ∧ i < n0 ∨ lv = 1 ∧ i < n1 ∨ lv = 2 ∧ i < n2 ∨ lv = 3 ∧ i < n3) := by
  unfold thr at h
  cases hl : lab lv with
  | false => rw [hl] at h; cases h
  | true =>
    rw [hl] at h
    cases hn : decide (num ≥ 0) with
    | false => rw [hn] at h; cases h
    | true =>
      rw [hn] at h
      have hn' : num ≥ 0 := of_decide_eq_true hn
      refine ⟨num.toNat, by omega, ?_⟩
      rcases lab_cases hl with rfl | rfl | rfl | rfl <;> simp at h <;> omega
theorem getW {l : List (List Int)} {i : Nat} (hw : wid 3 l) (hi : i < l.length) (K : DV → Prop) (h : K (.tup [dW (wrd l i), I 0])) :
    (bif decide ((0 : Int) ≤ (i : Int)) && decide ((i : Int) < ((mZ l).length : Int)) then bif isJ [IntKind.i64, IntKind.i64, IntKind.i64] (List.drop 0 ((mZ l).getD (Int.toNat i) [])) then K (DV.tup [DV.agg [D.v (Value.int IntKind.i64 (hdJ (List.drop 0 ((mZ l).getD (Int.toNat i) [])))), D.v (Value.int IntKind.i64 (hdJ (List.tail (List.drop 0 ((mZ l).getD (Int.toNat i) []))))), D.v (Value.int IntKind.i64 (hdJ (List.tail (List.tail (List.drop 0 ((mZ l).getD (Int.toNat i) []))))))], DV.c (D.v (Value.int IntKind.i64 0))]) else False else False) := by
  have hj1 : isJ [IntKind.i64, IntKind.i64, IntKind.i64] ((mZ l).getD i []) = true := isJ_mZ (j := 0) (n := 3) hw hi (by omega)
  simp only [mZ_len, Int.ofNat_lt, hi, decide_true, cond_true, Int.natCast_nonneg, Bool.and_self, Int.toNat_natCast, hdJ_mZt1, hdJ_mZt2, hj1, List.drop_zero, hdJ_mZ0]
  unfold dW wrd at h
  rw [Int.toNat_natCast] at h
  exact h
theorem oGet : SpecOK Try.prog 22 sGet := o_of Try.func22 (by kernel_rfl) rfl fun ds Q h => by
  unfold sGet at h; split at h
  · rename_i R0 p0 R1 p1 R2 p2 R3 p3 lv num
    obtain ⟨h1, h2⟩ := cond_P h
    obtain ⟨a0, a1, a2, a3⟩ := okA_spec h1
    obtain ⟨e0, w0, n0⟩ := okZ_spec a0
    obtain ⟨e1, w1, n1⟩ := okZ_spec a1
    obtain ⟨e2, w2, n2⟩ := okZ_spec a2
    obtain ⟨e3, w3, n3⟩ := okZ_spec a3
    unfold gotA at h2
    cases hm : amay (toZ R0) (toZ R1) (toZ R2) (toZ R3) with
    | false =>
      rw [hm] at h2
      refine ⟨_, ct_ask (.cons oAMay (.cons oThr .nil)) mixed Try.func22 rfl rfl rfl ?_, rfl, rfl, h2⟩
      rw [eGet]; simp only [h1, hm, cond_true, Bool.not_false]
    | true =>
      cases ht : thr (toZ R0).length (toZ R1).length (toZ R2).length (toZ R3).length lv num with
      | false =>
        rw [hm, ht] at h2
        refine ⟨_, ct_ask (.cons oAMay (.cons oThr .nil)) mixed Try.func22 rfl rfl rfl ?_, rfl, rfl, h2⟩
        simp only [toZ_len] at ht
        rw [eGet]; simp only [h1, hm, ht, cond_true, cond_false, Bool.not_true, Bool.not_false]
      | true =>
        rw [hm, ht] at h2
        refine ⟨_, ct_ask (.cons oAMay (.cons oThr .nil)) mixed Try.func22 rfl rfl rfl ?_, rfl, rfl, h2⟩
        obtain ⟨i, rfl, hi⟩ := thr_spec ht
        simp only [toZ_len] at ht
        rw [eGet]; simp only [h1, hm, ht, cond_true, cond_false, Bool.not_true]
        rw [e0, e1, e2, e3]
        simp only [toZ_mZ]
        rcases hi with ⟨rfl, hi⟩ | ⟨rfl, hi⟩ | ⟨rfl, hi⟩ | ⟨rfl, hi⟩
        · exact getW w0 hi (fun r => r = _) rfl
        · exact getW w1 hi (fun r => r = _) rfl
        · exact getW w2 hi (fun r => r = _) rfl
        · exact getW w3 hi (fun r => r = _) rfl
  · exact h.elim
theorem oRGet : SpecOK Try.prog 23 sGet := o_of Try.func23 (by kernel_rfl) rfl fun ds Q h => by
  unfold sGet at h; split at h
  · rename_i R0 p0 R1 p1 R2 p2 R3 p3 lv num
    obtain ⟨h1, h2⟩ := cond_P h
    obtain ⟨a0, a1, a2, a3⟩ := okA_spec h1
    obtain ⟨e0, w0, n0⟩ := okZ_spec a0
    obtain ⟨e1, w1, n1⟩ := okZ_spec a1
    obtain ⟨e2, w2, n2⟩ := okZ_spec a2
    obtain ⟨e3, w3, n3⟩ := okZ_spec a3
    unfold gotA at h2
    cases hm : amay (toZ R0) (toZ R1) (toZ R2) (toZ R3) with
    | false =>
      rw [hm] at h2
      refine ⟨_, ct_ask (.cons oRAMay (.cons oRThr .nil)) mixed Try.func23 rfl rfl rfl ?_, rfl, rfl, h2⟩
      rw [eRGet]; simp only [h1, hm, cond_true, Bool.not_false]
    | true =>
      cases ht : thr (toZ R0).length (toZ R1).length (toZ R2).length (toZ R3).length lv num with
      | false =>
        rw [hm, ht] at h2
        refine ⟨_, ct_ask (.cons oRAMay (.cons oRThr .nil)) mixed Try.func23 rfl rfl rfl ?_, rfl, rfl, h2⟩
        simp only [toZ_len] at ht
        rw [eRGet]; simp only [h1, hm, ht, cond_true, cond_false, Bool.not_true, Bool.not_false]
      | true =>
        rw [hm, ht] at h2
        refine ⟨_, ct_ask (.cons oRAMay (.cons oRThr .nil)) mixed Try.func23 rfl rfl rfl ?_, rfl, rfl, h2⟩
        obtain ⟨i, rfl, hi⟩ := thr_spec ht
        simp only [toZ_len] at ht
        rw [eRGet]; simp only [h1, hm, ht, cond_true, cond_false, Bool.not_true]
        rw [e0, e1, e2, e3]
        simp only [toZ_mZ]
        rcases hi with ⟨rfl, hi⟩ | ⟨rfl, hi⟩ | ⟨rfl, hi⟩ | ⟨rfl, hi⟩
        · exact getW w0 hi (fun r => r = _) rfl
        · exact getW w1 hi (fun r => r = _) rfl
        · exact getW w2 hi (fun r => r = _) rfl
        · exact getW w3 hi (fun r => r = _) rfl
  · exact h.elim
/-! ### copies -/
def okC (R : List (List D)) : Bool := allV R && decide (R.length ≤ 5864062014635)
def okC4 (R0 R1 R2 R3 : List (List D)) : Bool := okC R0 && (okC R1 && (okC R2 && okC R3))
theorem okC4_spec {R0 R1 R2 R3 : List (List D)} (h : okC4 R0 R1 R2 R3 = true) : (allV R0 = true ∧ R0.length ≤ 5864062014635) ∧ (allV R1 = true ∧ R1.length ≤ 5864062014635) ∧ (allV R2 = true ∧ R2.length ≤ 5864062014635) ∧ (allV R3 = true ∧ R3.length ≤ 5864062014635) := by
  simpa [okC4, okC, Bool.and_eq_true] using h
def sACopy : Spec := fun ds Q => match ds with | [.agg [.s 0 3 R0 p0, .s 0 3 R1 p1, .s 0 3 R2 p2, .s 0 3 R3 p3]] => cond (okC4 R0 R1 R2 R3) (Q (dO R0 R1 R2 R3)) False | _ => False
theorem eACopy (R0 p0 R1 p1 R2 p2 R3 p3 : List (List D)) (K : DV → Prop) : (ask Try.prog [(94, sCloneWords)] Try.f62 [dA R0 p0 R1 p1 R2 p2 R3 p3] K) = (bif allV R0 && decide (List.length R0 ≤ 5864062014635) then bif allV R1 && decide (List.length R1 ≤ 5864062014635) then bif allV R2 && decide (List.length R2 ≤ 5864062014635) then bif allV R3 && decide (List.length R3 ≤ 5864062014635) then bif decide (List.length R0 ≤ List.length (R0 ++ [])) && List.all (R0 ++ []) fun r => List.all r D.keeps then bif decide (List.length R1 ≤ List.length (R1 ++ [])) && List.all (R1 ++ []) fun r => List.all r D.keeps then bif decide (List.length R2 ≤ List.length (R2 ++ [])) && List.all (R2 ++ []) fun r => List.all r D.keeps then bif decide (List.length R3 ≤ List.length (R3 ++ [])) && List.all (R3 ++ []) fun r => List.all r D.keeps then K (DV.agg [D.s (1) (3) (List.take (List.length R0) (R0 ++ [])) (List.take (List.length R0 + 0 - List.length R0) (List.drop (List.length R0) (R0 ++ []))), D.s (1) (3) (List.take (List.length R1) (R1 ++ [])) (List.take (List.length R1 + 0 - List.length R1) (List.drop (List.length R1) (R1 ++ []))), D.s (1) (3) (List.take (List.length R2) (R2 ++ [])) (List.take (List.length R2 + 0 - List.length R2) (List.drop (List.length R2) (R2 ++ []))), D.s (1) (3) (List.take (List.length R3) (R3 ++ [])) (List.take (List.length R3 + 0 - List.length R3) (List.drop (List.length R3) (R3 ++ [])))]) else False else False else False else False else False else False else False else False) := by kernel_rfl
theorem eRCopy (R0 p0 R1 p1 R2 p2 R3 p3 : List (List D)) (K : DV → Prop) : (ask Try.prog [] Try.f64 [dA R0 p0 R1 p1 R2 p2 R3 p3] K) = (bif allV R0 then bif true && (decide ((0 + List.length R0) * 24 ≤ 140737488355328) && decide (0 + List.length R0 ≤ 9223372036854775807)) then bif allV R1 then bif true && (decide ((0 + List.length R1) * 24 ≤ 140737488355328) && decide (0 + List.length R1 ≤ 9223372036854775807)) then bif allV R2 then bif true && (decide ((0 + List.length R2) * 24 ≤ 140737488355328) && decide (0 + List.length R2 ≤ 9223372036854775807)) then bif allV R3 then bif true && (decide ((0 + List.length R3) * 24 ≤ 140737488355328) && decide (0 + List.length R3 ≤ 9223372036854775807)) then bif decide (0 + List.length R0 ≤ List.length ([] ++ R0)) && List.all ([] ++ R0) fun r => List.all r D.keeps then bif decide (0 + List.length R1 ≤ List.length ([] ++ R1)) && List.all ([] ++ R1) fun r => List.all r D.keeps then bif decide (0 + List.length R2 ≤ List.length ([] ++ R2)) && List.all ([] ++ R2) fun r => List.all r D.keeps then bif decide (0 + List.length R3 ≤ List.length ([] ++ R3)) && List.all ([] ++ R3) fun r => List.all r D.keeps then K (DV.agg [D.s (1) (3) (List.take (0 + List.length R0) ([] ++ R0)) (List.take (0 + List.length R0 - (0 + List.length R0)) (List.drop (0 + List.length R0) ([] ++ R0))), D.s (1) (3) (List.take (0 + List.length R1) ([] ++ R1)) (List.take (0 + List.length R1 - (0 + List.length R1)) (List.drop (0 + List.length R1) ([] ++ R1))), D.s (1) (3) (List.take (0 + List.length R2) ([] ++ R2)) (List.take (0 + List.length R2 - (0 + List.length R2)) (List.drop (0 + List.length R2) ([] ++ R2))), D.s (1) (3) (List.take (0 + List.length R3) ([] ++ R3)) (List.take (0 + List.length R3 - (0 + List.length R3)) (List.drop (0 + List.length R3) ([] ++ R3)))]) else False else False else False else False else False else False else False else False else False else False else False else False) := by kernel_rfl
theorem eLCopy (R0 p0 R1 p1 R2 p2 R3 p3 : List (List D)) (K : DV → Prop) : (ask Try.prog [] Try.f19 [dA R0 p0 R1 p1 R2 p2 R3 p3] K) = (bif allV R0 then bif true && (decide ((0 + List.length R0) * 24 ≤ 140737488355328) && decide (0 + List.length R0 ≤ 9223372036854775807)) then bif allV R1 then bif true && (decide ((0 + List.length R1) * 24 ≤ 140737488355328) && decide (0 + List.length R1 ≤ 9223372036854775807)) then bif allV R2 then bif true && (decide ((0 + List.length R2) * 24 ≤ 140737488355328) && decide (0 + List.length R2 ≤ 9223372036854775807)) then bif allV R3 then bif true && (decide ((0 + List.length R3) * 24 ≤ 140737488355328) && decide (0 + List.length R3 ≤ 9223372036854775807)) then bif decide (0 + List.length R0 ≤ List.length ([] ++ R0)) && List.all ([] ++ R0) fun r => List.all r D.keeps then bif decide (0 + List.length R1 ≤ List.length ([] ++ R1)) && List.all ([] ++ R1) fun r => List.all r D.keeps then bif decide (0 + List.length R2 ≤ List.length ([] ++ R2)) && List.all ([] ++ R2) fun r => List.all r D.keeps then bif decide (0 + List.length R3 ≤ List.length ([] ++ R3)) && List.all ([] ++ R3) fun r => List.all r D.keeps then K (DV.agg [D.s (1) (3) (List.take (0 + List.length R0) ([] ++ R0)) (List.take (0 + List.length R0 - (0 + List.length R0)) (List.drop (0 + List.length R0) ([] ++ R0))), D.s (1) (3) (List.take (0 + List.length R1) ([] ++ R1)) (List.take (0 + List.length R1 - (0 + List.length R1)) (List.drop (0 + List.length R1) ([] ++ R1))), D.s (1) (3) (List.take (0 + List.length R2) ([] ++ R2)) (List.take (0 + List.length R2 - (0 + List.length R2)) (List.drop (0 + List.length R2) ([] ++ R2))), D.s (1) (3) (List.take (0 + List.length R3) ([] ++ R3)) (List.take (0 + List.length R3 - (0 + List.length R3)) (List.drop (0 + List.length R3) ([] ++ R3)))]) else False else False else False else False else False else False else False else False else False else False else False else False) := by kernel_rfl
theorem pure4 {R0 R1 R2 R3 : List (List D)} (h0 : allV R0 = true) (h1 : allV R1 = true) (h2 : allV R2 = true) (h3 : allV R3 = true) : (dO R0 R1 R2 R3).pureOwn = true := by
  simp [DV.pureOwn, DV.pureOwn.go, DV.pure1, D.pureOwn, ownL, ownLL_of h0, ownLL_of h1, ownLL_of h2, ownLL_of h3, ownLL]
theorem oACopy : SpecOK Try.prog 62 sACopy := o_of Try.func62 (by kernel_rfl) rfl fun ds Q h => by
  unfold sACopy at h; split at h
  · rename_i R0 p0 R1 p1 R2 p2 R3 p3
    obtain ⟨h1, h2⟩ := cond_P h
    obtain ⟨⟨a0, l0⟩, ⟨a1, l1⟩, ⟨a2, l2⟩, ⟨a3, l3⟩⟩ := okC4_spec h1
    refine ⟨_, ct_ask (.cons oCloneWords .nil) mixed Try.func62 rfl rfl rfl ?_, pure4 a0 a1 a2 a3, rfl, h2⟩
    rw [eACopy]
    have g0 : R0.length * 24 ≤ 140737488355328 := by omega
    have g1 : R1.length * 24 ≤ 140737488355328 := by omega
    have g2 : R2.length * 24 ≤ 140737488355328 := by omega
    have g3 : R3.length * 24 ≤ 140737488355328 := by omega
    have k0 : R0.length ≤ 9223372036854775807 := by omega
    have k1 : R1.length ≤ 9223372036854775807 := by omega
    have k2 : R2.length ≤ 9223372036854775807 := by omega
    have k3 : R3.length ≤ 9223372036854775807 := by omega
    simp only [a0, a1, a2, a3, l0, l1, l2, l3, g0, g1, g2, g3, k0, k1, k2, k3, keeps_of a0, keeps_of a1, keeps_of a2, keeps_of a3, Nat.zero_add, Nat.add_zero, List.nil_append, List.append_nil, decide_true, Bool.and_self, Bool.true_and, cond_true, Nat.le_refl, List.take_length, List.drop_length, Nat.sub_self, List.take_nil, List.take_zero]
  · exact h.elim
theorem oRCopy : SpecOK Try.prog 64 sACopy := o_of Try.func64 (by kernel_rfl) rfl fun ds Q h => by
  unfold sACopy at h; split at h
  · rename_i R0 p0 R1 p1 R2 p2 R3 p3
    obtain ⟨h1, h2⟩ := cond_P h
    obtain ⟨⟨a0, l0⟩, ⟨a1, l1⟩, ⟨a2, l2⟩, ⟨a3, l3⟩⟩ := okC4_spec h1
    refine ⟨_, ct_ask (.nil) mixed Try.func64 rfl rfl rfl ?_, pure4 a0 a1 a2 a3, rfl, h2⟩
    rw [eRCopy]
    have g0 : R0.length * 24 ≤ 140737488355328 := by omega
    have g1 : R1.length * 24 ≤ 140737488355328 := by omega
    have g2 : R2.length * 24 ≤ 140737488355328 := by omega
    have g3 : R3.length * 24 ≤ 140737488355328 := by omega
    have k0 : R0.length ≤ 9223372036854775807 := by omega
    have k1 : R1.length ≤ 9223372036854775807 := by omega
    have k2 : R2.length ≤ 9223372036854775807 := by omega
    have k3 : R3.length ≤ 9223372036854775807 := by omega
    simp only [a0, a1, a2, a3, l0, l1, l2, l3, g0, g1, g2, g3, k0, k1, k2, k3, keeps_of a0, keeps_of a1, keeps_of a2, keeps_of a3, Nat.zero_add, Nat.add_zero, List.nil_append, List.append_nil, decide_true, Bool.and_self, Bool.true_and, cond_true, Nat.le_refl, List.take_length, List.drop_length, Nat.sub_self, List.take_nil, List.take_zero]
  · exact h.elim
theorem oLCopy : SpecOK Try.prog 19 sACopy := o_of Try.func19 (by kernel_rfl) rfl fun ds Q h => by
  unfold sACopy at h; split at h
  · rename_i R0 p0 R1 p1 R2 p2 R3 p3
    obtain ⟨h1, h2⟩ := cond_P h
    obtain ⟨⟨a0, l0⟩, ⟨a1, l1⟩, ⟨a2, l2⟩, ⟨a3, l3⟩⟩ := okC4_spec h1
    refine ⟨_, ct_ask (.nil) mixed Try.func19 rfl rfl rfl ?_, pure4 a0 a1 a2 a3, rfl, h2⟩
    rw [eLCopy]
    have g0 : R0.length * 24 ≤ 140737488355328 := by omega
    have g1 : R1.length * 24 ≤ 140737488355328 := by omega
    have g2 : R2.length * 24 ≤ 140737488355328 := by omega
    have g3 : R3.length * 24 ≤ 140737488355328 := by omega
    have k0 : R0.length ≤ 9223372036854775807 := by omega
    have k1 : R1.length ≤ 9223372036854775807 := by omega
    have k2 : R2.length ≤ 9223372036854775807 := by omega
    have k3 : R3.length ≤ 9223372036854775807 := by omega
    simp only [a0, a1, a2, a3, l0, l1, l2, l3, g0, g1, g2, g3, k0, k1, k2, k3, keeps_of a0, keeps_of a1, keeps_of a2, keeps_of a3, Nat.zero_add, Nat.add_zero, List.nil_append, List.append_nil, decide_true, Bool.and_self, Bool.true_and, cond_true, Nat.le_refl, List.take_length, List.drop_length, Nat.sub_self, List.take_nil, List.take_zero]
  · exact h.elim
/-! ### all of it -/
def sSameA : Spec := fun ds Q => match ds with | [.agg [.s 0 3 R0 p0, .s 0 3 R1 p1, .s 0 3 R2 p2, .s 0 3 R3 p3], .agg [.s 0 3 S0 q0, .s 0 3 S1 q1, .s 0 3 S2 q2, .s 0 3 S3 q3]] => cond (okA R0 R1 R2 R3 && okA S0 S1 S2 S3) (Q (B (decide (toZ R0 = toZ S0) && (decide (toZ R1 = toZ S1) && (decide (toZ R2 = toZ S2) && decide (toZ R3 = toZ S3)))))) False | _ => False
theorem eSameA (R0 p0 R1 p1 R2 p2 R3 p3 S0 q0 S1 q1 S2 q2 S3 q3 : List (List D)) (K : DV → Prop) : (ask Try.prog [(65, sSameWords)] Try.f26 [dA R0 p0 R1 p1 R2 p2 R3 p3, dA S0 q0 S1 q1 S2 q2 S3 q3] K) = (bif okZ (3) R0 && okZ (3) S0 then bif !decide (toZ R0 = toZ S0) then K (DV.c (D.v (Value.bool false))) else bif okZ (3) R1 && okZ (3) S1 then bif !decide (toZ R1 = toZ S1) then K (DV.c (D.v (Value.bool false))) else bif okZ (3) R2 && okZ (3) S2 then bif !decide (toZ R2 = toZ S2) then K (DV.c (D.v (Value.bool false))) else bif okZ (3) R3 && okZ (3) S3 then bif !decide (toZ R3 = toZ S3) then K (DV.c (D.v (Value.bool false))) else K (DV.c (D.v (Value.bool true))) else False else False else False else False) := by kernel_rfl
theorem oSameA : SpecOK Try.prog 26 sSameA := o_of Try.func26 (by kernel_rfl) rfl fun ds Q h => by
  unfold sSameA at h; split at h
  · rename_i R0 p0 R1 p1 R2 p2 R3 p3 S0 q0 S1 q1 S2 q2 S3 q3
    obtain ⟨h1, h2⟩ := cond_P h
    simp only [Bool.and_eq_true] at h1
    obtain ⟨a0, a1, a2, a3⟩ := okA_spec h1.1
    obtain ⟨b0, b1, b2, b3⟩ := okA_spec h1.2
    refine ⟨_, ct_ask (.cons oSameWords .nil) mixed Try.func26 rfl rfl rfl ?_, rfl, rfl, h2⟩
    rw [eSameA]
    simp only [a0, a1, a2, a3, b0, b1, b2, b3, Bool.and_self, cond_true]
    cases decide (toZ R0 = toZ S0) <;> cases decide (toZ R1 = toZ S1) <;> cases decide (toZ R2 = toZ S2) <;> cases decide (toZ R3 = toZ S3) <;> rfl
  · exact h.elim

theorem d10 : decide ((1 : Int) = 0) = false := rfl
theorem d20 : decide ((2 : Int) = 0) = false := rfl
theorem d21 : decide ((2 : Int) = 1) = false := rfl
theorem d30 : decide ((3 : Int) = 0) = false := rfl
theorem d31 : decide ((3 : Int) = 1) = false := rfl
theorem d32 : decide ((3 : Int) = 2) = false := rfl
/-! ### writes -/
def w3 (a b c : Int) : List D := [vi a, vi b, vi c]
def pt (lv k num : Int) (wv : List D) (R : List (List D)) : List (List D) := bif decide (lv = k) then R.set num.toNat wv else R
def sPut : Spec := fun ds Q => match ds with | [.agg [.s 0 3 R0 p0, .s 0 3 R1 p1, .s 0 3 R2 p2, .s 0 3 R3 p3], .c (.v (.int .i64 lv)), .c (.v (.int .i64 num)), .agg [.v (.int .i64 a), .v (.int .i64 b), .v (.int .i64 c)]] => cond (okA R0 R1 R2 R3 && okC4 R0 R1 R2 R3) (cond (amay (toZ R0) (toZ R1) (toZ R2) (toZ R3)) (cond (thr R0.length R1.length R2.length R3.length lv num) (cond (wmay a b c) (Q (.tup [dO (pt lv 0 num (w3 a b c) R0) (pt lv 1 num (w3 a b c) R1) (pt lv 2 num (w3 a b c) R2) (pt lv 3 num (w3 a b c) R3), I 0])) (Q (.tup [dNil, I 400]))) (Q (.tup [dNil, I 400]))) (Q (.tup [dNil, I 400]))) False | _ => False
theorem ePut (R0 p0 R1 p1 R2 p2 R3 p3 : List (List D)) (lv num a b c : Int) (K : DV → Prop) : (ask Try.prog [(28, sAMay), (59, sThr), (61, sWMay), (62, sACopy)] Try.f24 [dA R0 p0 R1 p1 R2 p2 R3 p3, I lv, I num, .agg [vi a, vi b, vi c]] K) = (bif okA R0 R1 R2 R3 then bif !amay (toZ R0) (toZ R1) (toZ R2) (toZ R3) then K (DV.tup [DV.agg [D.v (Value.slice none (0) (0)), D.v (Value.slice none (0) (0)), D.v (Value.slice none (0) (0)), D.v (Value.slice none (0) (0))], DV.c (D.v (Value.int IntKind.i64 (400)))]) else bif !thr (List.length R0) (List.length R1) (List.length R2) (List.length R3) lv num then K (DV.tup [DV.agg [D.v (Value.slice none (0) (0)), D.v (Value.slice none (0) (0)), D.v (Value.slice none (0) (0)), D.v (Value.slice none (0) (0))], DV.c (D.v (Value.int IntKind.i64 (400)))]) else bif !wmay a b c then K (DV.tup [DV.agg [D.v (Value.slice none (0) (0)), D.v (Value.slice none (0) (0)), D.v (Value.slice none (0) (0)), D.v (Value.slice none (0) (0))], DV.c (D.v (Value.int IntKind.i64 (400)))]) else bif okC4 R0 R1 R2 R3 then bif decide (lv = 0) then bif decide (0 ≤ num) && decide (num < @Nat.cast Int _ (List.length R0)) then bif decide (addN (0) (Int.toNat num) < List.length (R0 ++ [])) && decide (0 + 3 ≤ 3) then bif decide (List.length R0 ≤ List.length (List.set (R0 ++ []) (addN (0) (Int.toNat num)) (D.v (Value.int IntKind.i64 a) :: D.v (Value.int IntKind.i64 b) :: D.v (Value.int IntKind.i64 c) :: List.drop (0 + 3) (List.getD (R0 ++ []) (addN (0) (Int.toNat num)) [])))) && List.all (List.set (R0 ++ []) (addN (0) (Int.toNat num)) (D.v (Value.int IntKind.i64 a) :: D.v (Value.int IntKind.i64 b) :: D.v (Value.int IntKind.i64 c) :: List.drop (0 + 3) (List.getD (R0 ++ []) (addN (0) (Int.toNat num)) []))) fun r => List.all r D.keeps then bif decide (List.length R1 ≤ List.length (R1 ++ [])) && List.all (R1 ++ []) fun r => List.all r D.keeps then bif decide (List.length R2 ≤ List.length (R2 ++ [])) && List.all (R2 ++ []) fun r => List.all r D.keeps then bif decide (List.length R3 ≤ List.length (R3 ++ [])) && List.all (R3 ++ []) fun r => List.all r D.keeps then K (DV.tup [DV.agg [D.s (1) (3) (List.take (List.length R0) (List.set (R0 ++ []) (addN (0) (Int.toNat num)) (D.v (Value.int IntKind.i64 a) :: D.v (Value.int IntKind.i64 b) :: D.v (Value.int IntKind.i64 c) :: List.drop (0 + 3) (List.getD (R0 ++ []) (addN (0) (Int.toNat num)) [])))) (List.take (List.length R0 + 0 - List.length R0) (List.drop (List.length R0) (List.set (R0 ++ []) (addN (0) (Int.toNat num)) (D.v (Value.int IntKind.i64 a) :: D.v (Value.int IntKind.i64 b) :: D.v (Value.int IntKind.i64 c) :: List.drop (0 + 3) (List.getD (R0 ++ []) (addN (0) (Int.toNat num)) []))))), D.s (1) (3) (List.take (List.length R1) (R1 ++ [])) (List.take (List.length R1 + 0 - List.length R1) (List.drop (List.length R1) (R1 ++ []))), D.s (1) (3) (List.take (List.length R2) (R2 ++ [])) (List.take (List.length R2 + 0 - List.length R2) (List.drop (List.length R2) (R2 ++ []))), D.s (1) (3) (List.take (List.length R3) (R3 ++ [])) (List.take (List.length R3 + 0 - List.length R3) (List.drop (List.length R3) (R3 ++ [])))], DV.c (D.v (Value.int IntKind.i64 (0)))]) else False else False else False else False else False else False else bif decide (lv = 1) then bif decide (0 ≤ num) && decide (num < @Nat.cast Int _ (List.length R1)) then bif decide (addN (0) (Int.toNat num) < List.length (R1 ++ [])) && decide (0 + 3 ≤ 3) then bif decide (List.length R0 ≤ List.length (R0 ++ [])) && List.all (R0 ++ []) fun r => List.all r D.keeps then bif decide (List.length R1 ≤ List.length (List.set (R1 ++ []) (addN (0) (Int.toNat num)) (D.v (Value.int IntKind.i64 a) :: D.v (Value.int IntKind.i64 b) :: D.v (Value.int IntKind.i64 c) :: List.drop (0 + 3) (List.getD (R1 ++ []) (addN (0) (Int.toNat num)) [])))) && List.all (List.set (R1 ++ []) (addN (0) (Int.toNat num)) (D.v (Value.int IntKind.i64 a) :: D.v (Value.int IntKind.i64 b) :: D.v (Value.int IntKind.i64 c) :: List.drop (0 + 3) (List.getD (R1 ++ []) (addN (0) (Int.toNat num)) []))) fun r => List.all r D.keeps then bif decide (List.length R2 ≤ List.length (R2 ++ [])) && List.all (R2 ++ []) fun r => List.all r D.keeps then bif decide (List.length R3 ≤ List.length (R3 ++ [])) && List.all (R3 ++ []) fun r => List.all r D.keeps then K (DV.tup [DV.agg [D.s (1) (3) (List.take (List.length R0) (R0 ++ [])) (List.take (List.length R0 + 0 - List.length R0) (List.drop (List.length R0) (R0 ++ []))), D.s (1) (3) (List.take (List.length R1) (List.set (R1 ++ []) (addN (0) (Int.toNat num)) (D.v (Value.int IntKind.i64 a) :: D.v (Value.int IntKind.i64 b) :: D.v (Value.int IntKind.i64 c) :: List.drop (0 + 3) (List.getD (R1 ++ []) (addN (0) (Int.toNat num)) [])))) (List.take (List.length R1 + 0 - List.length R1) (List.drop (List.length R1) (List.set (R1 ++ []) (addN (0) (Int.toNat num)) (D.v (Value.int IntKind.i64 a) :: D.v (Value.int IntKind.i64 b) :: D.v (Value.int IntKind.i64 c) :: List.drop (0 + 3) (List.getD (R1 ++ []) (addN (0) (Int.toNat num)) []))))), D.s (1) (3) (List.take (List.length R2) (R2 ++ [])) (List.take (List.length R2 + 0 - List.length R2) (List.drop (List.length R2) (R2 ++ []))), D.s (1) (3) (List.take (List.length R3) (R3 ++ [])) (List.take (List.length R3 + 0 - List.length R3) (List.drop (List.length R3) (R3 ++ [])))], DV.c (D.v (Value.int IntKind.i64 (0)))]) else False else False else False else False else False else False else bif decide (lv = 2) then bif decide (0 ≤ num) && decide (num < @Nat.cast Int _ (List.length R2)) then bif decide (addN (0) (Int.toNat num) < List.length (R2 ++ [])) && decide (0 + 3 ≤ 3) then bif decide (List.length R0 ≤ List.length (R0 ++ [])) && List.all (R0 ++ []) fun r => List.all r D.keeps then bif decide (List.length R1 ≤ List.length (R1 ++ [])) && List.all (R1 ++ []) fun r => List.all r D.keeps then bif decide (List.length R2 ≤ List.length (List.set (R2 ++ []) (addN (0) (Int.toNat num)) (D.v (Value.int IntKind.i64 a) :: D.v (Value.int IntKind.i64 b) :: D.v (Value.int IntKind.i64 c) :: List.drop (0 + 3) (List.getD (R2 ++ []) (addN (0) (Int.toNat num)) [])))) && List.all (List.set (R2 ++ []) (addN (0) (Int.toNat num)) (D.v (Value.int IntKind.i64 a) :: D.v (Value.int IntKind.i64 b) :: D.v (Value.int IntKind.i64 c) :: List.drop (0 + 3) (List.getD (R2 ++ []) (addN (0) (Int.toNat num)) []))) fun r => List.all r D.keeps then bif decide (List.length R3 ≤ List.length (R3 ++ [])) && List.all (R3 ++ []) fun r => List.all r D.keeps then K (DV.tup [DV.agg [D.s (1) (3) (List.take (List.length R0) (R0 ++ [])) (List.take (List.length R0 + 0 - List.length R0) (List.drop (List.length R0) (R0 ++ []))), D.s (1) (3) (List.take (List.length R1) (R1 ++ [])) (List.take (List.length R1 + 0 - List.length R1) (List.drop (List.length R1) (R1 ++ []))), D.s (1) (3) (List.take (List.length R2) (List.set (R2 ++ []) (addN (0) (Int.toNat num)) (D.v (Value.int IntKind.i64 a) :: D.v (Value.int IntKind.i64 b) :: D.v (Value.int IntKind.i64 c) :: List.drop (0 + 3) (List.getD (R2 ++ []) (addN (0) (Int.toNat num)) [])))) (List.take (List.length R2 + 0 - List.length R2) (List.drop (List.length R2) (List.set (R2 ++ []) (addN (0) (Int.toNat num)) (D.v (Value.int IntKind.i64 a) :: D.v (Value.int IntKind.i64 b) :: D.v (Value.int IntKind.i64 c) :: List.drop (0 + 3) (List.getD (R2 ++ []) (addN (0) (Int.toNat num)) []))))), D.s (1) (3) (List.take (List.length R3) (R3 ++ [])) (List.take (List.length R3 + 0 - List.length R3) (List.drop (List.length R3) (R3 ++ [])))], DV.c (D.v (Value.int IntKind.i64 (0)))]) else False else False else False else False else False else False else bif decide (lv = 3) then bif decide (0 ≤ num) && decide (num < @Nat.cast Int _ (List.length R3)) then bif decide (addN (0) (Int.toNat num) < List.length (R3 ++ [])) && decide (0 + 3 ≤ 3) then bif decide (List.length R0 ≤ List.length (R0 ++ [])) && List.all (R0 ++ []) fun r => List.all r D.keeps then bif decide (List.length R1 ≤ List.length (R1 ++ [])) && List.all (R1 ++ []) fun r => List.all r D.keeps then bif decide (List.length R2 ≤ List.length (R2 ++ [])) && List.all (R2 ++ []) fun r => List.all r D.keeps then bif decide (List.length R3 ≤ List.length (List.set (R3 ++ []) (addN (0) (Int.toNat num)) (D.v (Value.int IntKind.i64 a) :: D.v (Value.int IntKind.i64 b) :: D.v (Value.int IntKind.i64 c) :: List.drop (0 + 3) (List.getD (R3 ++ []) (addN (0) (Int.toNat num)) [])))) && List.all (List.set (R3 ++ []) (addN (0) (Int.toNat num)) (D.v (Value.int IntKind.i64 a) :: D.v (Value.int IntKind.i64 b) :: D.v (Value.int IntKind.i64 c) :: List.drop (0 + 3) (List.getD (R3 ++ []) (addN (0) (Int.toNat num)) []))) fun r => List.all r D.keeps then K (DV.tup [DV.agg [D.s (1) (3) (List.take (List.length R0) (R0 ++ [])) (List.take (List.length R0 + 0 - List.length R0) (List.drop (List.length R0) (R0 ++ []))), D.s (1) (3) (List.take (List.length R1) (R1 ++ [])) (List.take (List.length R1 + 0 - List.length R1) (List.drop (List.length R1) (R1 ++ []))), D.s (1) (3) (List.take (List.length R2) (R2 ++ [])) (List.take (List.length R2 + 0 - List.length R2) (List.drop (List.length R2) (R2 ++ []))), D.s (1) (3) (List.take (List.length R3) (List.set (R3 ++ []) (addN (0) (Int.toNat num)) (D.v (Value.int IntKind.i64 a) :: D.v (Value.int IntKind.i64 b) :: D.v (Value.int IntKind.i64 c) :: List.drop (0 + 3) (List.getD (R3 ++ []) (addN (0) (Int.toNat num)) [])))) (List.take (List.length R3 + 0 - List.length R3) (List.drop (List.length R3) (List.set (R3 ++ []) (addN (0) (Int.toNat num)) (D.v (Value.int IntKind.i64 a) :: D.v (Value.int IntKind.i64 b) :: D.v (Value.int IntKind.i64 c) :: List.drop (0 + 3) (List.getD (R3 ++ []) (addN (0) (Int.toNat num)) [])))))], DV.c (D.v (Value.int IntKind.i64 (0)))]) else False else False else False else False else False else False else False else False else False) := by kernel_rfl
theorem eRPut (R0 p0 R1 p1 R2 p2 R3 p3 : List (List D)) (lv num a b c : Int) (K : DV → Prop) : (ask Try.prog [(29, sAMay), (60, sRThr), (63, sWMay), (64, sACopy)] Try.f25 [dA R0 p0 R1 p1 R2 p2 R3 p3, I lv, I num, .agg [vi a, vi b, vi c]] K) = (bif okA R0 R1 R2 R3 then bif !amay (toZ R0) (toZ R1) (toZ R2) (toZ R3) then K (DV.tup [DV.agg [D.v (Value.slice none (0) (0)), D.v (Value.slice none (0) (0)), D.v (Value.slice none (0) (0)), D.v (Value.slice none (0) (0))], DV.c (D.v (Value.int IntKind.i64 (400)))]) else bif !thr (List.length R0) (List.length R1) (List.length R2) (List.length R3) lv num then K (DV.tup [DV.agg [D.v (Value.slice none (0) (0)), D.v (Value.slice none (0) (0)), D.v (Value.slice none (0) (0)), D.v (Value.slice none (0) (0))], DV.c (D.v (Value.int IntKind.i64 (400)))]) else bif !wmay a b c then K (DV.tup [DV.agg [D.v (Value.slice none (0) (0)), D.v (Value.slice none (0) (0)), D.v (Value.slice none (0) (0)), D.v (Value.slice none (0) (0))], DV.c (D.v (Value.int IntKind.i64 (400)))]) else bif okC4 R0 R1 R2 R3 then bif decide (lv = 0) then bif decide (0 ≤ num) && decide (num < @Nat.cast Int _ (List.length R0)) then bif decide (addN (0) (Int.toNat num) < List.length (R0 ++ [])) && decide (0 + 3 ≤ 3) then bif decide (List.length R0 ≤ List.length (List.set (R0 ++ []) (addN (0) (Int.toNat num)) (D.v (Value.int IntKind.i64 a) :: D.v (Value.int IntKind.i64 b) :: D.v (Value.int IntKind.i64 c) :: List.drop (0 + 3) (List.getD (R0 ++ []) (addN (0) (Int.toNat num)) [])))) && List.all (List.set (R0 ++ []) (addN (0) (Int.toNat num)) (D.v (Value.int IntKind.i64 a) :: D.v (Value.int IntKind.i64 b) :: D.v (Value.int IntKind.i64 c) :: List.drop (0 + 3) (List.getD (R0 ++ []) (addN (0) (Int.toNat num)) []))) fun r => List.all r D.keeps then bif decide (List.length R1 ≤ List.length (R1 ++ [])) && List.all (R1 ++ []) fun r => List.all r D.keeps then bif decide (List.length R2 ≤ List.length (R2 ++ [])) && List.all (R2 ++ []) fun r => List.all r D.keeps then bif decide (List.length R3 ≤ List.length (R3 ++ [])) && List.all (R3 ++ []) fun r => List.all r D.keeps then K (DV.tup [DV.agg [D.s (1) (3) (List.take (List.length R0) (List.set (R0 ++ []) (addN (0) (Int.toNat num)) (D.v (Value.int IntKind.i64 a) :: D.v (Value.int IntKind.i64 b) :: D.v (Value.int IntKind.i64 c) :: List.drop (0 + 3) (List.getD (R0 ++ []) (addN (0) (Int.toNat num)) [])))) (List.take (List.length R0 + 0 - List.length R0) (List.drop (List.length R0) (List.set (R0 ++ []) (addN (0) (Int.toNat num)) (D.v (Value.int IntKind.i64 a) :: D.v (Value.int IntKind.i64 b) :: D.v (Value.int IntKind.i64 c) :: List.drop (0 + 3) (List.getD (R0 ++ []) (addN (0) (Int.toNat num)) []))))), D.s (1) (3) (List.take (List.length R1) (R1 ++ [])) (List.take (List.length R1 + 0 - List.length R1) (List.drop (List.length R1) (R1 ++ []))), D.s (1) (3) (List.take (List.length R2) (R2 ++ [])) (List.take (List.length R2 + 0 - List.length R2) (List.drop (List.length R2) (R2 ++ []))), D.s (1) (3) (List.take (List.length R3) (R3 ++ [])) (List.take (List.length R3 + 0 - List.length R3) (List.drop (List.length R3) (R3 ++ [])))], DV.c (D.v (Value.int IntKind.i64 (0)))]) else False else False else False else False else False else False else bif decide (lv = 1) then bif decide (0 ≤ num) && decide (num < @Nat.cast Int _ (List.length R1)) then bif decide (addN (0) (Int.toNat num) < List.length (R1 ++ [])) && decide (0 + 3 ≤ 3) then bif decide (List.length R0 ≤ List.length (R0 ++ [])) && List.all (R0 ++ []) fun r => List.all r D.keeps then bif decide (List.length R1 ≤ List.length (List.set (R1 ++ []) (addN (0) (Int.toNat num)) (D.v (Value.int IntKind.i64 a) :: D.v (Value.int IntKind.i64 b) :: D.v (Value.int IntKind.i64 c) :: List.drop (0 + 3) (List.getD (R1 ++ []) (addN (0) (Int.toNat num)) [])))) && List.all (List.set (R1 ++ []) (addN (0) (Int.toNat num)) (D.v (Value.int IntKind.i64 a) :: D.v (Value.int IntKind.i64 b) :: D.v (Value.int IntKind.i64 c) :: List.drop (0 + 3) (List.getD (R1 ++ []) (addN (0) (Int.toNat num)) []))) fun r => List.all r D.keeps then bif decide (List.length R2 ≤ List.length (R2 ++ [])) && List.all (R2 ++ []) fun r => List.all r D.keeps then bif decide (List.length R3 ≤ List.length (R3 ++ [])) && List.all (R3 ++ []) fun r => List.all r D.keeps then K (DV.tup [DV.agg [D.s (1) (3) (List.take (List.length R0) (R0 ++ [])) (List.take (List.length R0 + 0 - List.length R0) (List.drop (List.length R0) (R0 ++ []))), D.s (1) (3) (List.take (List.length R1) (List.set (R1 ++ []) (addN (0) (Int.toNat num)) (D.v (Value.int IntKind.i64 a) :: D.v (Value.int IntKind.i64 b) :: D.v (Value.int IntKind.i64 c) :: List.drop (0 + 3) (List.getD (R1 ++ []) (addN (0) (Int.toNat num)) [])))) (List.take (List.length R1 + 0 - List.length R1) (List.drop (List.length R1) (List.set (R1 ++ []) (addN (0) (Int.toNat num)) (D.v (Value.int IntKind.i64 a) :: D.v (Value.int IntKind.i64 b) :: D.v (Value.int IntKind.i64 c) :: List.drop (0 + 3) (List.getD (R1 ++ []) (addN (0) (Int.toNat num)) []))))), D.s (1) (3) (List.take (List.length R2) (R2 ++ [])) (List.take (List.length R2 + 0 - List.length R2) (List.drop (List.length R2) (R2 ++ []))), D.s (1) (3) (List.take (List.length R3) (R3 ++ [])) (List.take (List.length R3 + 0 - List.length R3) (List.drop (List.length R3) (R3 ++ [])))], DV.c (D.v (Value.int IntKind.i64 (0)))]) else False else False else False else False else False else False else bif decide (lv = 2) then bif decide (0 ≤ num) && decide (num < @Nat.cast Int _ (List.length R2)) then bif decide (addN (0) (Int.toNat num) < List.length (R2 ++ [])) && decide (0 + 3 ≤ 3) then bif decide (List.length R0 ≤ List.length (R0 ++ [])) && List.all (R0 ++ []) fun r => List.all r D.keeps then bif decide (List.length R1 ≤ List.length (R1 ++ [])) && List.all (R1 ++ []) fun r => List.all r D.keeps then bif decide (List.length R2 ≤ List.length (List.set (R2 ++ []) (addN (0) (Int.toNat num)) (D.v (Value.int IntKind.i64 a) :: D.v (Value.int IntKind.i64 b) :: D.v (Value.int IntKind.i64 c) :: List.drop (0 + 3) (List.getD (R2 ++ []) (addN (0) (Int.toNat num)) [])))) && List.all (List.set (R2 ++ []) (addN (0) (Int.toNat num)) (D.v (Value.int IntKind.i64 a) :: D.v (Value.int IntKind.i64 b) :: D.v (Value.int IntKind.i64 c) :: List.drop (0 + 3) (List.getD (R2 ++ []) (addN (0) (Int.toNat num)) []))) fun r => List.all r D.keeps then bif decide (List.length R3 ≤ List.length (R3 ++ [])) && List.all (R3 ++ []) fun r => List.all r D.keeps then K (DV.tup [DV.agg [D.s (1) (3) (List.take (List.length R0) (R0 ++ [])) (List.take (List.length R0 + 0 - List.length R0) (List.drop (List.length R0) (R0 ++ []))), D.s (1) (3) (List.take (List.length R1) (R1 ++ [])) (List.take (List.length R1 + 0 - List.length R1) (List.drop (List.length R1) (R1 ++ []))), D.s (1) (3) (List.take (List.length R2) (List.set (R2 ++ []) (addN (0) (Int.toNat num)) (D.v (Value.int IntKind.i64 a) :: D.v (Value.int IntKind.i64 b) :: D.v (Value.int IntKind.i64 c) :: List.drop (0 + 3) (List.getD (R2 ++ []) (addN (0) (Int.toNat num)) [])))) (List.take (List.length R2 + 0 - List.length R2) (List.drop (List.length R2) (List.set (R2 ++ []) (addN (0) (Int.toNat num)) (D.v (Value.int IntKind.i64 a) :: D.v (Value.int IntKind.i64 b) :: D.v (Value.int IntKind.i64 c) :: List.drop (0 + 3) (List.getD (R2 ++ []) (addN (0) (Int.toNat num)) []))))), D.s (1) (3) (List.take (List.length R3) (R3 ++ [])) (List.take (List.length R3 + 0 - List.length R3) (List.drop (List.length R3) (R3 ++ [])))], DV.c (D.v (Value.int IntKind.i64 (0)))]) else False else False else False else False else False else False else bif decide (lv = 3) then bif decide (0 ≤ num) && decide (num < @Nat.cast Int _ (List.length R3)) then bif decide (addN (0) (Int.toNat num) < List.length (R3 ++ [])) && decide (0 + 3 ≤ 3) then bif decide (List.length R0 ≤ List.length (R0 ++ [])) && List.all (R0 ++ []) fun r => List.all r D.keeps then bif decide (List.length R1 ≤ List.length (R1 ++ [])) && List.all (R1 ++ []) fun r => List.all r D.keeps then bif decide (List.length R2 ≤ List.length (R2 ++ [])) && List.all (R2 ++ []) fun r => List.all r D.keeps then bif decide (List.length R3 ≤ List.length (List.set (R3 ++ []) (addN (0) (Int.toNat num)) (D.v (Value.int IntKind.i64 a) :: D.v (Value.int IntKind.i64 b) :: D.v (Value.int IntKind.i64 c) :: List.drop (0 + 3) (List.getD (R3 ++ []) (addN (0) (Int.toNat num)) [])))) && List.all (List.set (R3 ++ []) (addN (0) (Int.toNat num)) (D.v (Value.int IntKind.i64 a) :: D.v (Value.int IntKind.i64 b) :: D.v (Value.int IntKind.i64 c) :: List.drop (0 + 3) (List.getD (R3 ++ []) (addN (0) (Int.toNat num)) []))) fun r => List.all r D.keeps then K (DV.tup [DV.agg [D.s (1) (3) (List.take (List.length R0) (R0 ++ [])) (List.take (List.length R0 + 0 - List.length R0) (List.drop (List.length R0) (R0 ++ []))), D.s (1) (3) (List.take (List.length R1) (R1 ++ [])) (List.take (List.length R1 + 0 - List.length R1) (List.drop (List.length R1) (R1 ++ []))), D.s (1) (3) (List.take (List.length R2) (R2 ++ [])) (List.take (List.length R2 + 0 - List.length R2) (List.drop (List.length R2) (R2 ++ []))), D.s (1) (3) (List.take (List.length R3) (List.set (R3 ++ []) (addN (0) (Int.toNat num)) (D.v (Value.int IntKind.i64 a) :: D.v (Value.int IntKind.i64 b) :: D.v (Value.int IntKind.i64 c) :: List.drop (0 + 3) (List.getD (R3 ++ []) (addN (0) (Int.toNat num)) [])))) (List.take (List.length R3 + 0 - List.length R3) (List.drop (List.length R3) (List.set (R3 ++ []) (addN (0) (Int.toNat num)) (D.v (Value.int IntKind.i64 a) :: D.v (Value.int IntKind.i64 b) :: D.v (Value.int IntKind.i64 c) :: List.drop (0 + 3) (List.getD (R3 ++ []) (addN (0) (Int.toNat num)) [])))))], DV.c (D.v (Value.int IntKind.i64 (0)))]) else False else False else False else False else False else False else False else False else False) := by kernel_rfl
theorem allV_set {R : List (List D)} (h : allV R = true) (i : Nat) (a b c : Int) : allV (R.set i [vi a, vi b, vi c]) = true := by
  unfold allV at h ⊢
  rw [List.all_eq_true] at h ⊢
  intro r hr
  rcases List.mem_or_eq_of_mem_set hr with hr | rfl
  · exact h r hr
  · rfl
theorem drop3 {R : List (List D)} (h : okZ 3 R = true) {i : Nat} (hi : i < R.length) : List.drop (0 + 3) (R.getD i []) = [] := by
  obtain ⟨e, w, n⟩ := okZ_spec h
  rw [e, mZ_getD]
  rw [← toZ_len] at hi
  rw [← List.map_drop, List.drop_of_length_le (by rw [wid_get w hi]; omega)]; rfl
theorem okA_pt {R : List (List D)} (h : okZ 3 R = true) (lv k num a b c : Int) : okZ 3 (pt lv k num (w3 a b c) R) = true := by
  unfold pt
  cases decide (lv = k) with
  | false => exact h
  | true =>
    simp only [cond_true]
    unfold okZ at h ⊢
    simp only [Bool.and_eq_true, List.all_eq_true, List.length_set] at h ⊢
    refine ⟨fun r hr => ?_, h.2⟩
    rcases List.mem_or_eq_of_mem_set hr with hr | rfl
    · exact h.1 r hr
    · exact ⟨rfl, fun d hd => by unfold w3 at hd; simp only [List.mem_cons, List.not_mem_nil, or_false] at hd; rcases hd with rfl | rfl | rfl <;> rfl⟩
theorem pt_len (lv k num : Int) (wv : List D) (R : List (List D)) : (pt lv k num wv R).length = R.length := by
  unfold pt; cases decide (lv = k) <;> simp
theorem toZ_pt (lv k num a b c : Int) (R : List (List D)) : toZ (pt lv k num (w3 a b c) R) = bif decide (lv = k) then (toZ R).set num.toNat [a, b, c] else toZ R := by
  unfold pt; cases decide (lv = k) <;> simp [toZ, w3, List.map_set, dI]
theorem pure_put {R0 R1 R2 R3 : List (List D)} (h0 : okZ 3 R0 = true) (h1 : okZ 3 R1 = true) (h2 : okZ 3 R2 = true) (h3 : okZ 3 R3 = true) (n : Int) : (DV.tup [dO R0 R1 R2 R3, I n]).pureOwn = true := by
  have := pure4 (allV_ok h0) (allV_ok h1) (allV_ok h2) (allV_ok h3)
  simp [DV.pureOwn, DV.pureOwn.go, DV.pure1, D.pureOwn, ownL, ownLL_of (allV_ok h0), ownLL_of (allV_ok h1), ownLL_of (allV_ok h2), ownLL_of (allV_ok h3), ownLL]
theorem oPut : SpecOK Try.prog 24 sPut := o_of Try.func24 (by kernel_rfl) rfl fun ds Q h => by
  unfold sPut at h; split at h
  · rename_i R0 p0 R1 p1 R2 p2 R3 p3 lv num a b c
    obtain ⟨h1, h2⟩ := cond_P h
    simp only [Bool.and_eq_true] at h1
    obtain ⟨h1, hc⟩ := h1
    obtain ⟨a0, a1, a2, a3⟩ := okA_spec h1
    obtain ⟨⟨v0, l0⟩, ⟨v1, l1⟩, ⟨v2, l2⟩, ⟨v3, l3⟩⟩ := okC4_spec hc
    cases hm : amay (toZ R0) (toZ R1) (toZ R2) (toZ R3) with
    | false =>
      rw [hm] at h2
      refine ⟨_, ct_ask (.cons oAMay (.cons oThr (.cons oWMay (.cons oACopy .nil)))) mixed Try.func24 rfl rfl rfl ?_, rfl, rfl, h2⟩
      rw [ePut]; simp only [h1, hm, cond_true, Bool.not_false]
    | true =>
      cases ht : thr R0.length R1.length R2.length R3.length lv num with
      | false =>
        rw [hm, ht] at h2
        refine ⟨_, ct_ask (.cons oAMay (.cons oThr (.cons oWMay (.cons oACopy .nil)))) mixed Try.func24 rfl rfl rfl ?_, rfl, rfl, h2⟩
        rw [ePut]; simp only [h1, hm, ht, cond_true, cond_false, Bool.not_true, Bool.not_false]
      | true =>
        cases hw : wmay a b c with
        | false =>
          rw [hm, ht, hw] at h2
          refine ⟨_, ct_ask (.cons oAMay (.cons oThr (.cons oWMay (.cons oACopy .nil)))) mixed Try.func24 rfl rfl rfl ?_, rfl, rfl, h2⟩
          rw [ePut]; simp only [h1, hm, ht, hw, cond_true, cond_false, Bool.not_true, Bool.not_false]
        | true =>
          rw [hm, ht, hw] at h2
          refine ⟨_, ct_ask (.cons oAMay (.cons oThr (.cons oWMay (.cons oACopy .nil)))) mixed Try.func24 rfl rfl rfl ?_, pure_put (okA_pt a0 _ _ _ _ _ _) (okA_pt a1 _ _ _ _ _ _) (okA_pt a2 _ _ _ _ _ _) (okA_pt a3 _ _ _ _ _ _) _, rfl, h2⟩
          rw [ePut]; simp only [h1, hc, hm, ht, hw, cond_true, cond_false, Bool.not_true]
          obtain ⟨i, rfl, hi⟩ := thr_spec ht
          have d4 : (0 + 3 ≤ 3) = True := by simp
          rcases hi with ⟨rfl, hi⟩ | ⟨rfl, hi⟩ | ⟨rfl, hi⟩ | ⟨rfl, hi⟩
          · have hd := drop3 a0 hi
            have ks := keeps_of (allV_set v0 i a b c)
            have ht2 : List.take R0.length (R0.set i [vi a, vi b, vi c]) = R0.set i [vi a, vi b, vi c] := List.take_of_length_le (by simp)
            have p0 : pt 0 0 (i : Int) (w3 a b c) R0 = R0.set i [vi a, vi b, vi c] := rfl
            have p1' : pt 0 1 (i : Int) (w3 a b c) R1 = R1 := rfl
            have p2' : pt 0 2 (i : Int) (w3 a b c) R2 = R2 := rfl
            have p3' : pt 0 3 (i : Int) (w3 a b c) R3 = R3 := rfl
            rw [p0, p1', p2', p3']
            simp only [cond_true, cond_false, Int.ofNat_lt, Int.natCast_nonneg, Int.toNat_natCast, addN, hi, hd, d4, List.append_nil, List.length_set, keeps_of v0, keeps_of v1, keeps_of v2, keeps_of v3, ks, ht2, Nat.zero_add, Nat.add_zero, decide_true, Bool.and_self, Bool.true_and, Nat.le_refl, List.take_length, List.drop_length, Nat.sub_self, List.take_nil, List.take_zero]
          · have hd := drop3 a1 hi
            have ks := keeps_of (allV_set v1 i a b c)
            have ht2 : List.take R1.length (R1.set i [vi a, vi b, vi c]) = R1.set i [vi a, vi b, vi c] := List.take_of_length_le (by simp)
            have p1 : pt 1 1 (i : Int) (w3 a b c) R1 = R1.set i [vi a, vi b, vi c] := rfl
            have p0' : pt 1 0 (i : Int) (w3 a b c) R0 = R0 := rfl
            have p2' : pt 1 2 (i : Int) (w3 a b c) R2 = R2 := rfl
            have p3' : pt 1 3 (i : Int) (w3 a b c) R3 = R3 := rfl
            rw [p0', p1, p2', p3']
            simp only [d10, cond_true, cond_false, Int.ofNat_lt, Int.natCast_nonneg, Int.toNat_natCast, addN, hi, hd, d4, List.append_nil, List.length_set, keeps_of v0, keeps_of v1, keeps_of v2, keeps_of v3, ks, ht2, Nat.zero_add, Nat.add_zero, decide_true, Bool.and_self, Bool.true_and, Nat.le_refl, List.take_length, List.drop_length, Nat.sub_self, List.take_nil, List.take_zero]
          · have hd := drop3 a2 hi
            have ks := keeps_of (allV_set v2 i a b c)
            have ht2 : List.take R2.length (R2.set i [vi a, vi b, vi c]) = R2.set i [vi a, vi b, vi c] := List.take_of_length_le (by simp)
            have p2 : pt 2 2 (i : Int) (w3 a b c) R2 = R2.set i [vi a, vi b, vi c] := rfl
            have p0' : pt 2 0 (i : Int) (w3 a b c) R0 = R0 := rfl
            have p1' : pt 2 1 (i : Int) (w3 a b c) R1 = R1 := rfl
            have p3' : pt 2 3 (i : Int) (w3 a b c) R3 = R3 := rfl
            rw [p0', p1', p2, p3']
            simp only [d20, d21, cond_true, cond_false, Int.ofNat_lt, Int.natCast_nonneg, Int.toNat_natCast, addN, hi, hd, d4, List.append_nil, List.length_set, keeps_of v0, keeps_of v1, keeps_of v2, keeps_of v3, ks, ht2, Nat.zero_add, Nat.add_zero, decide_true, Bool.and_self, Bool.true_and, Nat.le_refl, List.take_length, List.drop_length, Nat.sub_self, List.take_nil, List.take_zero]
          · have hd := drop3 a3 hi
            have ks := keeps_of (allV_set v3 i a b c)
            have ht2 : List.take R3.length (R3.set i [vi a, vi b, vi c]) = R3.set i [vi a, vi b, vi c] := List.take_of_length_le (by simp)
            have p3 : pt 3 3 (i : Int) (w3 a b c) R3 = R3.set i [vi a, vi b, vi c] := rfl
            have p0' : pt 3 0 (i : Int) (w3 a b c) R0 = R0 := rfl
            have p1' : pt 3 1 (i : Int) (w3 a b c) R1 = R1 := rfl
            have p2' : pt 3 2 (i : Int) (w3 a b c) R2 = R2 := rfl
            rw [p0', p1', p2', p3]
            simp only [d30, d31, d32, cond_true, cond_false, Int.ofNat_lt, Int.natCast_nonneg, Int.toNat_natCast, addN, hi, hd, d4, List.append_nil, List.length_set, keeps_of v0, keeps_of v1, keeps_of v2, keeps_of v3, ks, ht2, Nat.zero_add, Nat.add_zero, decide_true, Bool.and_self, Bool.true_and, Nat.le_refl, List.take_length, List.drop_length, Nat.sub_self, List.take_nil, List.take_zero]
  · exact h.elim
theorem oRPut : SpecOK Try.prog 25 sPut := o_of Try.func25 (by kernel_rfl) rfl fun ds Q h => by
  unfold sPut at h; split at h
  · rename_i R0 p0 R1 p1 R2 p2 R3 p3 lv num a b c
    obtain ⟨h1, h2⟩ := cond_P h
    simp only [Bool.and_eq_true] at h1
    obtain ⟨h1, hc⟩ := h1
    obtain ⟨a0, a1, a2, a3⟩ := okA_spec h1
    obtain ⟨⟨v0, l0⟩, ⟨v1, l1⟩, ⟨v2, l2⟩, ⟨v3, l3⟩⟩ := okC4_spec hc
    cases hm : amay (toZ R0) (toZ R1) (toZ R2) (toZ R3) with
    | false =>
      rw [hm] at h2
      refine ⟨_, ct_ask (.cons oRAMay (.cons oRThr (.cons oRWMay (.cons oRCopy .nil)))) mixed Try.func25 rfl rfl rfl ?_, rfl, rfl, h2⟩
      rw [eRPut]; simp only [h1, hm, cond_true, Bool.not_false]
    | true =>
      cases ht : thr R0.length R1.length R2.length R3.length lv num with
      | false =>
        rw [hm, ht] at h2
        refine ⟨_, ct_ask (.cons oRAMay (.cons oRThr (.cons oRWMay (.cons oRCopy .nil)))) mixed Try.func25 rfl rfl rfl ?_, rfl, rfl, h2⟩
        rw [eRPut]; simp only [h1, hm, ht, cond_true, cond_false, Bool.not_true, Bool.not_false]
      | true =>
        cases hw : wmay a b c with
        | false =>
          rw [hm, ht, hw] at h2
          refine ⟨_, ct_ask (.cons oRAMay (.cons oRThr (.cons oRWMay (.cons oRCopy .nil)))) mixed Try.func25 rfl rfl rfl ?_, rfl, rfl, h2⟩
          rw [eRPut]; simp only [h1, hm, ht, hw, cond_true, cond_false, Bool.not_true, Bool.not_false]
        | true =>
          rw [hm, ht, hw] at h2
          refine ⟨_, ct_ask (.cons oRAMay (.cons oRThr (.cons oRWMay (.cons oRCopy .nil)))) mixed Try.func25 rfl rfl rfl ?_, pure_put (okA_pt a0 _ _ _ _ _ _) (okA_pt a1 _ _ _ _ _ _) (okA_pt a2 _ _ _ _ _ _) (okA_pt a3 _ _ _ _ _ _) _, rfl, h2⟩
          rw [eRPut]; simp only [h1, hc, hm, ht, hw, cond_true, cond_false, Bool.not_true]
          obtain ⟨i, rfl, hi⟩ := thr_spec ht
          have d4 : (0 + 3 ≤ 3) = True := by simp
          rcases hi with ⟨rfl, hi⟩ | ⟨rfl, hi⟩ | ⟨rfl, hi⟩ | ⟨rfl, hi⟩
          · have hd := drop3 a0 hi
            have ks := keeps_of (allV_set v0 i a b c)
            have ht2 : List.take R0.length (R0.set i [vi a, vi b, vi c]) = R0.set i [vi a, vi b, vi c] := List.take_of_length_le (by simp)
            have p0 : pt 0 0 (i : Int) (w3 a b c) R0 = R0.set i [vi a, vi b, vi c] := rfl
            have p1' : pt 0 1 (i : Int) (w3 a b c) R1 = R1 := rfl
            have p2' : pt 0 2 (i : Int) (w3 a b c) R2 = R2 := rfl
            have p3' : pt 0 3 (i : Int) (w3 a b c) R3 = R3 := rfl
            rw [p0, p1', p2', p3']
            simp only [cond_true, cond_false, Int.ofNat_lt, Int.natCast_nonneg, Int.toNat_natCast, addN, hi, hd, d4, List.append_nil, List.length_set, keeps_of v0, keeps_of v1, keeps_of v2, keeps_of v3, ks, ht2, Nat.zero_add, Nat.add_zero, decide_true, Bool.and_self, Bool.true_and, Nat.le_refl, List.take_length, List.drop_length, Nat.sub_self, List.take_nil, List.take_zero]
          · have hd := drop3 a1 hi
            have ks := keeps_of (allV_set v1 i a b c)
            have ht2 : List.take R1.length (R1.set i [vi a, vi b, vi c]) = R1.set i [vi a, vi b, vi c] := List.take_of_length_le (by simp)
            have p1 : pt 1 1 (i : Int) (w3 a b c) R1 = R1.set i [vi a, vi b, vi c] := rfl
            have p0' : pt 1 0 (i : Int) (w3 a b c) R0 = R0 := rfl
            have p2' : pt 1 2 (i : Int) (w3 a b c) R2 = R2 := rfl
            have p3' : pt 1 3 (i : Int) (w3 a b c) R3 = R3 := rfl
            rw [p0', p1, p2', p3']
            simp only [d10, cond_true, cond_false, Int.ofNat_lt, Int.natCast_nonneg, Int.toNat_natCast, addN, hi, hd, d4, List.append_nil, List.length_set, keeps_of v0, keeps_of v1, keeps_of v2, keeps_of v3, ks, ht2, Nat.zero_add, Nat.add_zero, decide_true, Bool.and_self, Bool.true_and, Nat.le_refl, List.take_length, List.drop_length, Nat.sub_self, List.take_nil, List.take_zero]
          · have hd := drop3 a2 hi
            have ks := keeps_of (allV_set v2 i a b c)
            have ht2 : List.take R2.length (R2.set i [vi a, vi b, vi c]) = R2.set i [vi a, vi b, vi c] := List.take_of_length_le (by simp)
            have p2 : pt 2 2 (i : Int) (w3 a b c) R2 = R2.set i [vi a, vi b, vi c] := rfl
            have p0' : pt 2 0 (i : Int) (w3 a b c) R0 = R0 := rfl
            have p1' : pt 2 1 (i : Int) (w3 a b c) R1 = R1 := rfl
            have p3' : pt 2 3 (i : Int) (w3 a b c) R3 = R3 := rfl
            rw [p0', p1', p2, p3']
            simp only [d20, d21, cond_true, cond_false, Int.ofNat_lt, Int.natCast_nonneg, Int.toNat_natCast, addN, hi, hd, d4, List.append_nil, List.length_set, keeps_of v0, keeps_of v1, keeps_of v2, keeps_of v3, ks, ht2, Nat.zero_add, Nat.add_zero, decide_true, Bool.and_self, Bool.true_and, Nat.le_refl, List.take_length, List.drop_length, Nat.sub_self, List.take_nil, List.take_zero]
          · have hd := drop3 a3 hi
            have ks := keeps_of (allV_set v3 i a b c)
            have ht2 : List.take R3.length (R3.set i [vi a, vi b, vi c]) = R3.set i [vi a, vi b, vi c] := List.take_of_length_le (by simp)
            have p3 : pt 3 3 (i : Int) (w3 a b c) R3 = R3.set i [vi a, vi b, vi c] := rfl
            have p0' : pt 3 0 (i : Int) (w3 a b c) R0 = R0 := rfl
            have p1' : pt 3 1 (i : Int) (w3 a b c) R1 = R1 := rfl
            have p2' : pt 3 2 (i : Int) (w3 a b c) R2 = R2 := rfl
            rw [p0', p1', p2', p3]
            simp only [d30, d31, d32, cond_true, cond_false, Int.ofNat_lt, Int.natCast_nonneg, Int.toNat_natCast, addN, hi, hd, d4, List.append_nil, List.length_set, keeps_of v0, keeps_of v1, keeps_of v2, keeps_of v3, ks, ht2, Nat.zero_add, Nat.add_zero, decide_true, Bool.and_self, Bool.true_and, Nat.le_refl, List.take_length, List.drop_length, Nat.sub_self, List.take_nil, List.take_zero]
  · exact h.elim
end Vm