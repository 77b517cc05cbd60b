/- What the functions of this text do, told by an interpreter that is proved right (YtpgkfdehflimcaaVA to VD). My own work. -/
import Derived.Test.YtpgkfdehflimcaaVClkD
import Derived.Test.YtpgkfdehflimcaaVD
namespace Vm
open Go Go.Proofs
set_option linter.unusedSimpArgs false
set_option linter.unusedVariables false
structure P4 where (i : Nat) (a b d e : Int)
def inv4 (n : Nat) (c : Int) (p : P4) : Prop := p.i ≤ n ∧ (0 ≤ p.a ∧ p.a ≤ 15) ∧ (0 ≤ p.b ∧ p.b ≤ 15) ∧ (0 ≤ p.d ∧ p.d ≤ 15) ∧ (0 ≤ p.e ∧ p.e ≤ 15)
theorem clk15 {x : Int} (h : 0 ≤ x ∧ x ≤ 15) : clk x = true := by unfold clk upto; simp; omega
theorem s4_ok {R : List (List D)} {c : Int} (hR : ∀ i, i < R.length → isJ [IntKind.i64] (R.getD i []) = true) (hc0 : 0 ≤ c) (hc : c ≤ 15) (hn : R.length ≤ 9223372036854775807) (Q : Exit → X → Prop) (x : X) (h : s4 R c Q x) : XWP Try.prog (.loop (bodyL Try.f4 0)) Q x := by
  obtain ⟨h1, h2⟩ := h
  refine xwp_round (ι := P4) (l := [(21, sNx), (23, sI)]) (m := []) (fn := Try.f4) (i := 0) (ts := [0, 5, 6, 7, 8]) (ks := [6, 7]) (.cons o21 (.cons o23 .nil)) mixed (loops_nil rfl)
    (fun p => St4 R c p.i p.a p.b p.d p.e p.a p.b p.d p.e) (inv4 R.length c) (fun p => R.length - p.i) ⟨0, 0, 0, 0, 0⟩ (V4 R c) (V4 R c) (fun p hp => ?_) ⟨Nat.zero_le _, by decide, by decide, by decide, by decide⟩ ?_
  · obtain ⟨i, a, b, d, e⟩ := p
    obtain ⟨hi, ha, hb, hd, he⟩ := hp
    simp only at hi ha hb hd he ⊢
    show roundA band bor Try.prog _ _ Try.f4 0 _ _ _ _ _ _ _
    rw [e4r]
    by_cases hl : i < R.length
    · have hl' : ((i : Int) < (R.length : Nat)) := by omega
      rw [decide_eq_true hl']
      simp only [cond_true]
      by_cases h40 : (i : Int) < 40
      · rw [decide_eq_true h40]
        have e0 : decide ((0 : Int) ≤ i) = true := decide_eq_true (by omega)
        have et : Int.toNat (i : Int) = i := by simp
        have ej : isJ [IntKind.i64] (List.drop 0 (R.getD i [])) = true := by simpa using hR i hl
        simp only [e0, et, ej, Bool.and_self, cond_true]
        have hg : ∀ z, band z 3 = 0 ∨ band z 3 = 1 ∨ band z 3 = 2 ∨ band z 3 = 3 := fun z => by rw [mask2]; omega
        have hg := hg (hdJ (List.drop 0 (R.getD i [])))
        generalize band (hdJ (List.drop 0 (R.getD i []))) 3 = g at *
        have wi : IntKind.wrap .i64 ((i : Int) + 1) = i + 1 := wrap_id (by omega) (by omega)
        have wa : IntKind.wrap .i64 (a + 1) = a + 1 := wrap_id (by omega) (by omega)
        have wb : IntKind.wrap .i64 (b + 1) = b + 1 := wrap_id (by omega) (by omega)
        have wd : IntKind.wrap .i64 (d + 1) = d + 1 := wrap_id (by omega) (by omega)
        have we : IntKind.wrap .i64 (e + 1) = e + 1 := wrap_id (by omega) (by omega)
        have hm : may4 a b d e c = true := by simp [may4, clk15 ha, clk15 hb, clk15 hd, clk15 he, clk15 ⟨hc0, hc⟩]
        rcases hg with rfl | rfl | rfl | rfl
        · by_cases hv : a < c
          · have hnx : nx a b d e 0 c = ⟨a + 1, b, d, e, a + 1, 0⟩ := by
              have : ¬ a ≥ c := by omega
              simp [nx, hm, lab0, this, w64, wa]
            simp [hnx, addN, mulN, isK, hdI, splice, etaK, eqI, wa, wi, hv]
            exact ⟨⟨i + 1, a + 1, b, d, e⟩, by simp; omega, ⟨by simp; omega, by simp; omega, hb, hd, he⟩, by simp⟩
          · have hnx : nx a b d e 0 c = ⟨0, 0, 0, 0, 0, 501⟩ := by
              have : a ≥ c := by omega
              simp [nx, hm, lab0, this]
            simp [hnx, addN, mulN, isK, hdI, splice, etaK, eqI, wi, hv]
            exact ⟨⟨i + 1, a, b, d, e⟩, by simp; omega, ⟨by simp; omega, ha, hb, hd, he⟩, by simp⟩
        · by_cases hv : b < c
          · have hnx : nx a b d e 1 c = ⟨a, b + 1, d, e, b + 1, 0⟩ := by
              have : ¬ b ≥ c := by omega
              simp [nx, hm, lab1, this, w64, wb]
            simp [hnx, addN, mulN, isK, hdI, splice, etaK, eqI, wb, wi, hv]
            exact ⟨⟨i + 1, a, b + 1, d, e⟩, by simp; omega, ⟨by simp; omega, ha, by simp; omega, hd, he⟩, by simp⟩
          · have hnx : nx a b d e 1 c = ⟨0, 0, 0, 0, 0, 501⟩ := by
              have : b ≥ c := by omega
              simp [nx, hm, lab1, this]
            simp [hnx, addN, mulN, isK, hdI, splice, etaK, eqI, wi, hv]
            exact ⟨⟨i + 1, a, b, d, e⟩, by simp; omega, ⟨by simp; omega, ha, hb, hd, he⟩, by simp⟩
        · by_cases hv : d < c
          · have hnx : nx a b d e 2 c = ⟨a, b, d + 1, e, d + 1, 0⟩ := by
              have : ¬ d ≥ c := by omega
              simp [nx, hm, lab2, this, w64, wd]
            simp [hnx, addN, mulN, isK, hdI, splice, etaK, eqI, wd, wi, hv]
            exact ⟨⟨i + 1, a, b, d + 1, e⟩, by simp; omega, ⟨by simp; omega, ha, hb, by simp; omega, he⟩, by simp⟩
          · have hnx : nx a b d e 2 c = ⟨0, 0, 0, 0, 0, 501⟩ := by
              have : d ≥ c := by omega
              simp [nx, hm, lab2, this]
            simp [hnx, addN, mulN, isK, hdI, splice, etaK, eqI, wi, hv]
            exact ⟨⟨i + 1, a, b, d, e⟩, by simp; omega, ⟨by simp; omega, ha, hb, hd, he⟩, by simp⟩
        · by_cases hv : e < c
          · have hnx : nx a b d e 3 c = ⟨a, b, d, e + 1, e + 1, 0⟩ := by
              have : ¬ e ≥ c := by omega
              simp [nx, hm, lab3, this, w64, we]
            simp [hnx, addN, mulN, isK, hdI, splice, etaK, eqI, we, wi, hv]
            exact ⟨⟨i + 1, a, b, d, e + 1⟩, by simp; omega, ⟨by simp; omega, ha, hb, hd, by simp; omega⟩, by simp⟩
          · have hnx : nx a b d e 3 c = ⟨0, 0, 0, 0, 0, 501⟩ := by
              have : e ≥ c := by omega
              simp [nx, hm, lab3, this]
            simp [hnx, addN, mulN, isK, hdI, splice, etaK, eqI, wi, hv]
            exact ⟨⟨i + 1, a, b, d, e⟩, by simp; omega, ⟨by simp; omega, ha, hb, hd, he⟩, by simp⟩
      · rw [decide_eq_false h40]
        simp only [cond_false]
        exact ⟨trivial, h2 _ _ _ _ _⟩
    · have hl' : ¬ ((i : Int) < (R.length : Nat)) := by omega
      rw [decide_eq_false hl']
      simp only [cond_false]
      exact ⟨trivial, h2 _ _ _ _ _⟩
  · rw [h1]; rfl
theorem c4 (rows : List (List Int)) (ceiling : Int) (hw : ∀ r ∈ rows, r.length = 1 ∧ ∀ n ∈ r, (Lit.int .i64 n).wf = true) (hl : rows.length ≤ 9223372036854775807) : CT Try.prog 4 [.c (.s 0 1 (rows.map fun r => r.map vi) []), I ceiling] (B true) := by
  have hc0 : 0 ≤ band ceiling 15 := by rw [mask4]; omega
  have hc : band ceiling 15 ≤ 15 := by rw [mask4]; omega
  have hR : ∀ i, i < (rows.map fun r => r.map vi).length → isJ [IntKind.i64] ((rows.map fun r => r.map vi).getD i []) = true := fun i hi => by
    have hi' : i < rows.length := by simpa using hi
    obtain ⟨h1, _⟩ := hw rows[i] (List.getElem_mem hi')
    have e : (rows.map fun r => r.map vi).getD i [] = rows[i].map vi := by simp [List.getD_eq_getElem?_getD, hi']
    rw [e]
    obtain ⟨n, hn⟩ := len1 _ h1
    rw [hn]; rfl
  generalize hRR : (rows.map fun r => r.map vi) = R at *
  have hlen : R.length ≤ 9223372036854775807 := by rw [← hRR]; simpa using hl
  refine ct_askL (l := [(21, sNx), (23, sI), (24, sT)]) (m := [(6, s4 R (band ceiling 15))]) (.cons o21 (.cons o23 (.cons o24 .nil))) mixed (loops_ok 1 rfl fun i hi s hs Q x hq => ?_) Try.func4 rfl rfl rfl ?_
  · match i, hi with
    | 0, _ =>
      have e : loopId (bodyL Try.f4 0) = 6 := by kernel_rfl
      rw [e] at hs
      have hs' : some (s4 R (band ceiling 15)) = some s := hs
      cases hs'
      exact s4_ok hR hc0 hc hlen Q x hq
  · show askA band bor Try.prog _ _ Try.f4 _ _
    rw [e4]
    exact ⟨rfl, fun _ _ _ _ _ => rfl⟩
end Vm
