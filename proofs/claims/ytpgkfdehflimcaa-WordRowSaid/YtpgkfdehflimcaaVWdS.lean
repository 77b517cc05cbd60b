/- What the functions of this text do, told by an interpreter that is proved right (YtpgkfdehflimcaaVA to VD). My own work. -/
import Derived.Test.YtpgkfdehflimcaaVWdR
import Derived.Test.YtpgkfdehflimcaaVD
namespace Vm
open Go Go.Proofs
set_option linter.unusedSimpArgs false
set_option linter.unusedVariables false
theorem rows_int {rows : List (List Int)} (hw : ∀ r ∈ rows, r.length = 1 ∧ ∀ n ∈ r, (Lit.int .i64 n).wf = true) : ∀ i, i < (rows.map fun r => r.map vi).length → isJ [IntKind.i64] ((rows.map fun r => r.map vi).getD i []) = true := fun i hi => by
  have hi' : i < rows.length := by simpa using hi
  obtain ⟨h1, _⟩ := hw rows[i] (List.getElem_mem hi')
  have e : (rows.map fun r => r.map vi).getD i [] = rows[i].map vi := by simp [List.getD_eq_getElem?_getD, hi']
  rw [e]
  obtain ⟨n, hn⟩ := len1 _ h1
  rw [hn]; rfl
theorem mask7 (n : Int) : band n 127 = n % 128 := mask_i64 127 7 (by decide) (by decide) n
structure P15 where (i : Nat) (v c l : Int)
def inv15 (n : Nat) (p : P15) : Prop := p.i ≤ n ∧ (0 ≤ p.v ∧ p.v ≤ 255) ∧ (0 ≤ p.c ∧ p.c ≤ 65535) ∧ (0 ≤ p.l ∧ p.l ≤ 255)
theorem s15_ok {R : List (List D)} (hR : ∀ i, i < R.length → isJ [IntKind.i64] (R.getD i []) = true) (hn : R.length ≤ 9223372036854775807) (Q : Exit → X → Prop) (x : X) (h : s15 R Q x) : XWP Try.prog (.loop (bodyL Try.f15 0)) Q x := by
  obtain ⟨h1, h2⟩ := h
  refine xwp_round (ι := P15) (l := [(30, s30), (32, s32), (34, s34), (23, sI)]) (m := []) (fn := Try.f15) (i := 0) (ts := [0, 3, 4, 5]) (ks := [4, 5]) (.cons o30 (.cons o32 (.cons o34 (.cons o23 .nil)))) mixed (loops_nil rfl)
    (fun p => St15 R p.i p.v p.c p.l p.v p.c p.l) (inv15 R.length) (fun p => R.length - p.i) ⟨0, 0, 0, 0⟩ (V15 R) (V15 R) (fun p hp => ?_) ⟨Nat.zero_le _, by decide, by decide, by decide⟩ ?_
  · obtain ⟨i, v, c, l⟩ := p
    obtain ⟨hi, hv, hc, hl4⟩ := hp
    simp only at hi hv hc hl4 ⊢
    show roundA band bor Try.prog _ _ Try.f15 0 _ _ _ _ _ _ _
    rw [e15r]
    by_cases hl : i < R.length
    · have hl' : ((i : Int) < (R.length : Nat)) := by omega
      rw [decide_eq_true hl']
      simp only [cond_true]
      by_cases h40 : (i : Int) < 40
      · rw [decide_eq_true h40]
        have e0 : decide ((0 : Int) ≤ i) = true := decide_eq_true (by omega)
        have et : Int.toNat (i : Int) = i := by simp
        have ej : isJ [IntKind.i64] (List.drop 0 (R.getD i [])) = true := by simpa using hR i hl
        simp only [e0, et, ej, Bool.and_self, cond_true]
        have hk : ∀ z, 0 ≤ band z 127 ∧ band z 127 ≤ 127 := fun z => by rw [mask7]; omega
        have hk := hk (Int.fdiv (hdJ (List.drop 0 (R.getD i []))) 4)
        generalize band (Int.fdiv (hdJ (List.drop 0 (R.getD i []))) 4) 127 = k at *
        generalize band (hdJ (List.drop 0 (R.getD i []))) 3 = g
        have wi : IntKind.wrap .i64 ((i : Int) + 1) = i + 1 := wrap_id (by omega) (by omega)
        have wk : IntKind.wrap .i64 (k + 1) = k + 1 := wrap_id (by omega) (by omega)
        have hm : wmay v c l = true := by simp [wmay, val8, clk, upto]; omega
        have hid : idm k = true := by simp [idm, upto]; omega
        have hf : freeW v c l = ⟨v, c, 0, 0⟩ := by simp [freeW, hm]
        have hw : writeW v c l k i = ⟨k, i, 0, 0⟩ := by
          have : wmay k i 0 = true := by simp [wmay, val8, clk, upto]; omega
          simp [writeW, hm, this]
        have hlk : lockW v c l k = if l = 0 then ⟨v, c, k + 1, 0⟩ else ⟨0, 0, 0, 301⟩ := by
          by_cases h0 : l = 0
          · subst h0; simp [lockW, hm, hid, w64, wk]
          · simp [lockW, hm, hid, h0]
        have next : ∀ v' c' l' : Int, (0 ≤ v' ∧ v' ≤ 255) → (0 ≤ c' ∧ c' ≤ 65535) → (0 ≤ l' ∧ l' ≤ 255) → ∃ p' : P15, R.length - p'.i < R.length - i ∧ inv15 R.length p' ∧ St15 R ((i : Int) + 1) v' c' l' v' c' l' = St15 R p'.i p'.v p'.c p'.l p'.v p'.c p'.l := fun v' c' l' q1 q2 q3 =>
          ⟨⟨i + 1, v', c', l'⟩, by simp; omega, ⟨by simp; omega, q1, q2, q3⟩, by simp⟩
        rw [hf, hw, hlk, wi, wk]
        cases (g == 0) with
        | true =>
          by_cases h0 : l = 0
          · simp [h0, eqI]; exact next v c (k + 1) hv hc ⟨by omega, by omega⟩
          · simp [h0, eqI]; exact next v c l hv hc hl4
        | false =>
          cases (g == 1) with
          | true =>
            by_cases h0 : l = 0
            · simp [h0, eqI]; exact next v c (k + 1) hv hc ⟨by omega, by omega⟩
            · simp [h0, eqI]; exact next v c l hv hc hl4
          | false =>
            cases (g == 2) with
            | true => simp [eqI]; exact next v c 0 hv hc ⟨by omega, by omega⟩
            | false => simp [eqI]; exact next k i 0 ⟨by omega, by omega⟩ ⟨by omega, by omega⟩ ⟨by omega, by omega⟩
      · rw [decide_eq_false h40]
        simp only [cond_false]
        exact ⟨trivial, h2 _ _ _ _⟩
    · have hl' : ¬ ((i : Int) < (R.length : Nat)) := by omega
      rw [decide_eq_false hl']
      simp only [cond_false]
      exact ⟨trivial, h2 _ _ _ _⟩
  · rw [h1]; rfl
theorem c15 (rows : List (List Int)) (hw : ∀ r ∈ rows, r.length = 1 ∧ ∀ n ∈ r, (Lit.int .i64 n).wf = true) (hl : rows.length ≤ 9223372036854775807) : CT Try.prog 15 [.c (.s 0 1 (rows.map fun r => r.map vi) [])] (B true) := by
  have hR := rows_int hw
  generalize hRR : (rows.map fun r => r.map vi) = R at *
  have hlen : R.length ≤ 9223372036854775807 := by rw [← hRR]; simpa using hl
  refine ct_askL (l := [(30, s30), (32, s32), (34, s34), (23, sI), (38, sT)]) (m := [(5, s15 R)]) (.cons o30 (.cons o32 (.cons o34 (.cons o23 (.cons o38 .nil))))) mixed (loops_ok 1 rfl fun i hi s hs Q x hq => ?_) Try.func15 rfl rfl rfl ?_
  · match i, hi with
    | 0, _ =>
      have e : loopId (bodyL Try.f15 0) = 5 := by kernel_rfl
      rw [e] at hs
      have hs' : some (s15 R) = some s := hs
      cases hs'
      exact s15_ok hR hlen Q x hq
  · show askL Try.prog _ _ Try.f15 _ _
    rw [e15]
    exact ⟨rfl, fun _ _ _ _ => rfl⟩
end Vm
