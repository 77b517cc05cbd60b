/- Proved: Words answers true for every word and numbers. No condition. -/
import Derived.Test.YtpgkfdehflimcaaQWordsx4
import Derived.Laws.BitsLemmas
namespace Go.Proofs.Ytpgkfdehflimcaa.Pure
open Go Go.RowKit Go.Proofs.Ytpgkfdehflimcaa.PWords Go.Proofs.YtpgkfdehflimcaaW.PrintWords Go.Proofs.YtpgkfdehflimcaaW.PrintLast
set_option linter.unusedSimpArgs false

theorem Num (x : Int) : veillaw0_Num.f x = some x := rfl
theorem In (a m : Int) : word_in.f a m = some (decide (0 ≤ a ∧ a ≤ m)) := by
  unfold word_in.f
  by_cases h : a ≥ 0
  · rw [if_pos h]; congr 2; apply propext; omega
  · rw [if_neg h]; congr 1; simp; omega
def okW (a b c : Int) : Prop := (0 ≤ a ∧ a ≤ 255) ∧ (0 ≤ b ∧ b ≤ 65535) ∧ 0 ≤ c ∧ c ≤ 255
instance (a b c : Int) : Decidable (okW a b c) := by unfold okW; infer_instance
theorem May (a b c : Int) : word_May.f a b c = some (decide (okW a b c)) := by
  unfold word_May.f word_Value.f word_Clock.f okW
  simp only [In, Option.bind_some]
  by_cases ha : 0 ≤ a ∧ a ≤ 255 <;> by_cases hb : 0 ≤ b ∧ b ≤ 65535 <;> simp [ha, hb]
theorem Lock (k : Nat) (a b c i : Int) : word_Lock.f (k + 1) a b c i = some (if okW a b c ∧ 0 ≤ i ∧ i ≤ 254 then (if c = 0 then (a, b, i + 1, 0) else (0, 0, 0, 301)) else (0, 0, 0, 300)) := by
  unfold word_Lock.f word_Id.f
  simp only [May, In, Option.bind_some]
  by_cases h : okW a b c
  · by_cases hi : 0 ≤ i ∧ i ≤ 254
    · have hw : wrap64 (i + 1) = i + 1 := by unfold wrap64; omega
      simp only [h, hi, decide_true, if_true, word_Lock.j0, Bool.not_true, Bool.false_eq_true, if_false, hw, and_self]
      by_cases hc : c = 0 <;> simp [hc]
    · simp [h, hi, word_Lock.j0]
  · simp [h, word_Lock.j0]
theorem Free (a b c : Int) : word_Free.f a b c = some (if okW a b c then (a, b, 0, 0) else (0, 0, 0, 300)) := by
  unfold word_Free.f
  rw [May]
  by_cases h : okW a b c <;> simp [h]
theorem Write (a b c v t : Int) : word_Write.f a b c v t = some (if okW a b c ∧ okW v t 0 then (v, t, 0, 0) else (0, 0, 0, 300)) := by
  unfold word_Write.f
  rw [May, May]
  by_cases h : okW a b c <;> by_cases h' : okW v t 0 <;> simp [h, h']
theorem awake (k : Nat) (hk : 5 ≤ k) : veillaw3_awake.f k = some true := by
  obtain ⟨k, rfl⟩ : ∃ m, k = m + 1 := ⟨k - 1, by omega⟩
  unfold veillaw3_awake.f
  simp only [Lock, Free, Write, May, Num, Option.bind_some]
  decide +kernel


theorem upTo (a m : Int) : veilref1_upTo.f a 0 m = some (decide (0 ≤ a ∧ a ≤ m)) := by
  unfold veilref1_upTo.f
  by_cases h : a ≥ 0
  · rw [if_pos h]; congr 2; apply propext; omega
  · rw [if_neg h]; congr 1; simp; omega
theorem RMay (a b c : Int) : veilref1_WordMay.f a b c = some (decide (okW a b c)) := by
  unfold veilref1_WordMay.f veilref1_ValueMay.f veilref1_ClockMay.f okW
  simp only [upTo, Option.bind_some]
  by_cases ha : 0 ≤ a ∧ a ≤ 255 <;> by_cases hb : 0 ≤ b ∧ b ≤ 65535 <;> simp [ha, hb]
theorem RLock (k : Nat) (a b c i : Int) : veilref1_Lock.f (k + 1) a b c i = some (if okW a b c ∧ 0 ≤ i ∧ i ≤ 254 then (if c = 0 then (a, b, i + 1, 0) else (0, 0, 0, 301)) else (0, 0, 0, 300)) := by
  unfold veilref1_Lock.f veilref1_IdMay.f
  simp only [RMay, upTo, Option.bind_some]
  by_cases h : okW a b c
  · by_cases hi : 0 ≤ i ∧ i ≤ 254
    · have hw : wrap64 (i + 1) = i + 1 := by unfold wrap64; omega
      simp only [h, hi, decide_true, if_true, veilref1_Lock.j0, Bool.not_true, Bool.false_eq_true, if_false, hw, and_self]
      by_cases hc : c = 0 <;> simp [hc]
    · simp [h, hi, veilref1_Lock.j0]
  · simp [h, veilref1_Lock.j0]
theorem RFree (a b c : Int) : veilref1_Free.f a b c = some (if okW a b c then (a, b, 0, 0) else (0, 0, 0, 300)) := by
  unfold veilref1_Free.f
  rw [RMay]
  by_cases h : okW a b c <;> simp [h]
theorem RWrite (a b c v t : Int) : veilref1_Write.f a b c v t = some (if okW a b c ∧ okW v t 0 then (v, t, 0, 0) else (0, 0, 0, 300)) := by
  unfold veilref1_Write.f
  rw [RMay, RMay]
  by_cases h : okW a b c <;> by_cases h' : okW v t 0 <;> simp [h, h']
theorem Words (a b c i v t : Int) (_ : (Lit.int .i64 a).wf = true) (_ : (Lit.int .i64 b).wf = true) (_ : (Lit.int .i64 c).wf = true) (_ : (Lit.int .i64 i).wf = true) (_ : (Lit.int .i64 v).wf = true) (_ : (Lit.int .i64 t).wf = true) : ∃ k, veillaw3_Words.f k a b c i v t = some true := by
  refine ⟨9 + 1, ?_⟩
  unfold veillaw3_Words.f
  rw [awake _ (by omega)]
  simp only [Lock, Free, Write, May, RLock, RFree, RWrite, RMay, Num, Option.bind_some]
  simp

end Go.Proofs.Ytpgkfdehflimcaa.Pure
