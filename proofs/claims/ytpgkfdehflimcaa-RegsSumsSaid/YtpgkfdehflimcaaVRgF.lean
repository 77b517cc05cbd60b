/- What the functions of this text do, told by an interpreter that is proved right (YtpgkfdehflimcaaVA to VD). My own work. -/
import Derived.Test.YtpgkfdehflimcaaVRgE
import Derived.Test.YtpgkfdehflimcaaVD
namespace Vm
open Go Go.Proofs
set_option linter.unusedSimpArgs false
set_option linter.unusedVariables false
theorem rows_int {rows : List (List Int)} (hw : ∀ r ∈ rows, r.length = 1 ∧ ∀ n ∈ r, (Lit.int .i64 n).wf = true) : ∀ i, i < (rows.map fun r => r.map vi).length → isJ [IntKind.i64] ((rows.map fun r => r.map vi).getD i []) = true := fun i hi => by
  have hi' : i < rows.length := by simpa using hi
  obtain ⟨h1, _⟩ := hw rows[i] (List.getElem_mem hi')
  have e : (rows.map fun r => r.map vi).getD i [] = rows[i].map vi := by simp [List.getD_eq_getElem?_getD, hi']
  rw [e]
  obtain ⟨n, hn⟩ := len1 _ h1
  rw [hn]; rfl
structure P9 where (i : Nat) (a b c d : Int)
def inv9 (n : Nat) (p : P9) : Prop := p.i ≤ n ∧ v4 p.a p.b p.c p.d = true
theorem v4_mk {a b c d : Int} (h1 : val8 a = true) (h2 : val8 b = true) (h3 : val8 c = true) (h4 : val8 d = true) : v4 a b c d = true := by simp [v4, h1, h2, h3, h4]
theorem s9_ok {R : List (List D)} (hR : ∀ i, i < R.length → isJ [IntKind.i64] (R.getD i []) = true) (hn : R.length ≤ 9223372036854775807) (Q : Exit → X → Prop) (x : X) (h : s9 R Q x) : XWP Try.prog (.loop (bodyL Try.f9 0)) Q x := by
  obtain ⟨h1, h2⟩ := h
  refine xwp_roundH (ι := P9) (H := { hkA band bor [(25, sSet), (27, sAdd), (23, sI)] [] with split := true }) (fn := Try.f9) (i := 0) (ts := [0, 3, 4, 5]) (ks := [4, 5]) (hkS_ok (.cons o25 (.cons o27 (.cons o23 .nil)))) mixed (loops_nil rfl)
    (fun p => St9 R p.i p.a p.b p.c p.d p.a p.b p.c p.d) (inv9 R.length) (fun p => R.length - p.i) ⟨0, 0, 0, 0, 0⟩ (V9 R) (V9 R) (fun p hp => ?_) ⟨Nat.zero_le _, rfl⟩ ?_
  · obtain ⟨i, a, b, c, d⟩ := p
    obtain ⟨hi, hv⟩ := hp
    simp only at hi hv ⊢
    show roundS band Try.prog _ _ Try.f9 0 _ _ _ _ _ _ _
    rw [e9r]
    by_cases hl : i < R.length
    · have hl' : ((i : Int) < (R.length : Nat)) := by omega
      rw [decide_eq_true hl']
      simp only [cond_true]
      by_cases h40 : (i : Int) < 40
      · rw [decide_eq_true h40]
        have e0 : decide ((0 : Int) ≤ i) = true := decide_eq_true (by omega)
        have et : Int.toNat (i : Int) = i := by simp
        have ej : isJ [IntKind.i64] (List.drop 0 (R.getD i [])) = true := by simpa using hR i hl
        simp only [e0, et, ej, Bool.and_self, cond_true]
        generalize hdJ (List.drop 0 (R.getD i [])) = z
        have hg1 : band z 3 = 0 ∨ band z 3 = 1 ∨ band z 3 = 2 ∨ band z 3 = 3 := by rw [mask2]; omega
        have hg2 : band (Int.fdiv z 4) 3 = 0 ∨ band (Int.fdiv z 4) 3 = 1 ∨ band (Int.fdiv z 4) 3 = 2 ∨ band (Int.fdiv z 4) 3 = 3 := by rw [mask2]; omega
        have hvv : val8 (band (Int.fdiv z 32) 255) = true := val8_of (by rw [mask8]; omega)
        generalize band (Int.fdiv z 32) 255 = v at *
        generalize band z 3 = g at *
        generalize band (Int.fdiv z 4) 3 = q at *
        generalize band (Int.fdiv z 16) 1 = o at *
        have wi : IntKind.wrap .i64 ((i : Int) + 1) = i + 1 := wrap_id (by omega) (by omega)
        obtain ⟨ha, hb, hc, hd⟩ := v4_of hv
        have sm : ∀ x y, val8 x = true → val8 y = true → band (IntKind.wrap .i64 (x + y)) 255 = (x + y) % 256 := fun x y hx hy => by
          have := val8_le hx
          have := val8_le hy
          rw [wrap_id (by omega) (by omega), mask8]
        have next : ∀ a' b' c' d' : Int, val8 a' = true → val8 b' = true → val8 c' = true → val8 d' = true → ∃ p' : P9, R.length - p'.i < R.length - i ∧ inv9 R.length p' ∧ St9 R ((i : Int) + 1) a' b' c' d' a' b' c' d' = St9 R p'.i p'.a p'.b p'.c p'.d p'.a p'.b p'.c p'.d := fun a' b' c' d' q1 q2 q3 q4 =>
          ⟨⟨i + 1, a', b', c', d'⟩, by simp; omega, ⟨by simp; omega, v4_mk q1 q2 q3 q4⟩, by simp⟩
        rcases hg1 with rfl | rfl | rfl | rfl <;> rcases hg2 with rfl | rfl | rfl | rfl <;> cases (o == 1) <;>
          simp [setR, addR, putR, getR, hv, hvv, lab0, lab1, lab2, lab3, eqI, wi, sm, ha, hb, hc, hd] <;> apply next <;> first | assumption | exact mod8 _ _
      · rw [decide_eq_false h40]
        simp only [cond_false]
        exact ⟨trivial, h2 _ _ _ _ _⟩
    · have hl' : ¬ ((i : Int) < (R.length : Nat)) := by omega
      rw [decide_eq_false hl']
      simp only [cond_false]
      exact ⟨trivial, h2 _ _ _ _ _⟩
  · rw [h1]; rfl
theorem c9 (rows : List (List Int)) (hw : ∀ r ∈ rows, r.length = 1 ∧ ∀ n ∈ r, (Lit.int .i64 n).wf = true) (hl : rows.length ≤ 9223372036854775807) : CT Try.prog 9 [.c (.s 0 1 (rows.map fun r => r.map vi) [])] (B true) := by
  have hR := rows_int hw
  generalize hRR : (rows.map fun r => r.map vi) = R at *
  have hlen : R.length ≤ 9223372036854775807 := by rw [← hRR]; simpa using hl
  refine ct_askL (l := [(25, sSet), (27, sAdd), (23, sI), (29, sT)]) (m := [(5, s9 R)]) (.cons o25 (.cons o27 (.cons o23 (.cons o29 .nil)))) mixed (loops_ok 1 rfl fun i hi s hs Q x hq => ?_) Try.func9 rfl rfl rfl ?_
  · match i, hi with
    | 0, _ =>
      have e : loopId (bodyL Try.f9 0) = 5 := by kernel_rfl
      rw [e] at hs
      have hs' : some (s9 R) = some s := hs
      cases hs'
      exact s9_ok hR hlen Q x hq
  · show askL Try.prog _ _ Try.f9 _ _
    rw [e9]
    exact ⟨rfl, fun _ _ _ _ _ => rfl⟩
end Vm
