/- An interpreter for Go's texts over plain data, its proof, and what it says of the functions that the law reaches. My own work. -/
import Derived.Test.YtnhodnfnlnccaaaGreatBs5
namespace Vm
section
set_option maxHeartbeats 2000000
open Go Go.Proofs
set_option linter.unusedSimpArgs false
set_option linter.unusedVariables false
set_option maxRecDepth 100000
def noAt (p : Int → Bool) (h : Mh) (ss : List SesD) (i : Int) : Prop := mAt p h ss i = false
def sCalE : Spec := fun ds Q => match ds with
  | [d, e] => macA d fun h ss => inA e fun i => cond (okM h ss) (noAt (has3 0 1 4) h ss i ∧ Q (macE 1700)) False
  | _ => False
theorem oCalE : SpecOK Tryz.prog 33 sCalE := o_al Tryz.func33 (by kernel_rfl) rfl fun ds Q hq => by
  unfold sCalE at hq; split at hq
  · obtain ⟨h, ss, hq, r1⟩ := macA_spec hq
    obtain ⟨i, hq, rfl⟩ := inA_spec hq
    obtain ⟨ho, hn, hq⟩ := cond_P hq
    have hct := cCalc h ss i ho
    have hn' : mAt (has3 0 1 4) h ss i = false := hn
    rw [hn'] at hct
    exact ⟨_, _, .cons r1 (.cons (.refl _) .nil), hct, rfl, rfl, hq⟩
  · exact hq.elim
def iCalE : Inl := callB Tryz.prog [34, 3] (sF sCalE)
theorem iCalE_ok : InlOK Tryz.prog 33 iCalE := callB_ok (oF oCalE)
theorem eCF (an : Int → Int → Int) (w x : Int) (K : DV → Prop) : (askH Tryz.prog (hkN an [(35, sAtD [] (B true)), (24, sSM), (25, sI)] [] [(33, iCalE), (37, iStdK 1 bH1 bA1)]) Tryz.f12 [I w, I x] K) = (([] : List DV) = [] ∧ [I (0), I (1)] = [I (0), I (1)] ∧ bif Int.tmod (IntKind.wrap IntKind.u64 w) (7) == 0 then bif decide (0 ≤ an (Int.fdiv w (8)) (1)) && decide (an (Int.fdiv w (8)) (1) < 2) then bif decide (addN (0) (Int.toNat (an (Int.fdiv w (8)) (1))) < 2) then bif isJ [IntKind.i64] (List.drop (0) (List.getD [[vN (IntKind.wrap IntKind.i64 (0 - IntKind.wrap IntKind.i64 (1 + an x (1023))))], [vN (IntKind.wrap IntKind.i64 (1 + IntKind.wrap IntKind.i64 (1 + an x (1023))))]] (addN (0) (Int.toNat (an (Int.fdiv w (8)) (1)))) [])) then noAt (has3 (0) (1) (4)) { w0 := [[vN (5), vN (0), vN (0)], [vN (6), vN (0), vN (0)]], w1 := [[vN (7), vN (0), vN (0)]], w2 := [], w3 := [[vN (9), vN (0), vN (0)]], c0 := 0, c1 := 0, c2 := 0, c3 := 0, ce := 9, tr := [[vN (3), vN (0), vN (0), vN (5)]] } [{ id := 3, lb := 0, cl := 3, pg := [[vN (2), vN (0), vN (0), vN (0)], [vN (1), vN (0), vN (0), vN (0)], [vN (3), vN (0), vN (0), vN (0)]], st := 0, pc := 1, r0 := 5, r1 := 0, r2 := 0, r3 := 0, rd := [[vN (0), vN (0), vN (0)]], wt := [], at' := 0, sp := 0, tr := 0, rs := 0, to := 0 }, { id := 5, lb := 1, cl := 1, pg := [[vN (2), vN (0), vN (0), vN (1)], [vN (3), vN (0), vN (1), vN (0)]], st := 0, pc := 0, r0 := 0, r1 := 0, r2 := 0, r3 := 0, rd := [], wt := [], at' := 0, sp := 0, tr := 0, rs := 0, to := 0 }] (hdJ (List.drop (0) (List.getD [[vN (IntKind.wrap IntKind.i64 (0 - IntKind.wrap IntKind.i64 (1 + an x (1023))))], [vN (IntKind.wrap IntKind.i64 (1 + IntKind.wrap IntKind.i64 (1 + an x (1023))))]] (addN (0) (Int.toNat (an (Int.fdiv w (8)) (1)))) []))) ∧ K (B true) else False else False else False else bif Int.tmod (IntKind.wrap IntKind.u64 w) (7) == 1 then noAt (has3 (0) (1) (4)) { w0 := [[vN (5), vN (0), vN (0)], [vN (6), vN (0), vN (0)]], w1 := [[vN (7), vN (0), vN (0)]], w2 := [], w3 := [[vN (9), vN (0), vN (0)]], c0 := 0, c1 := 0, c2 := 0, c3 := 0, ce := IntKind.wrap IntKind.i64 (0 - IntKind.wrap IntKind.i64 (1 + an x (1023))), tr := [[vN (3), vN (0), vN (0), vN (5)]] } [{ id := 3, lb := 0, cl := 3, pg := [[vN (2), vN (0), vN (0), vN (0)], [vN (1), vN (0), vN (0), vN (0)], [vN (3), vN (0), vN (0), vN (0)]], st := 0, pc := 1, r0 := 5, r1 := 0, r2 := 0, r3 := 0, rd := [[vN (0), vN (0), vN (0)]], wt := [], at' := 0, sp := 0, tr := 0, rs := 0, to := 0 }, { id := 5, lb := 1, cl := 1, pg := [[vN (2), vN (0), vN (0), vN (1)], [vN (3), vN (0), vN (1), vN (0)]], st := 0, pc := 0, r0 := 0, r1 := 0, r2 := 0, r3 := 0, rd := [], wt := [], at' := 0, sp := 0, tr := 0, rs := 0, to := 0 }] (0) ∧ K (B true) else bif Int.tmod (IntKind.wrap IntKind.u64 w) (7) == 2 then noAt (has3 (0) (1) (4)) { w0 := [[vN (5), vN (0), vN (0)], [vN (6), vN (0), vN (0)]], w1 := [[vN (7), vN (0), vN (0)]], w2 := [], w3 := [[vN (9), vN (0), vN (0)]], c0 := 0, c1 := 0, c2 := 0, c3 := 0, ce := 9, tr := [[vN (3), vN (0), vN (0), vN (5)]] } [{ id := 3, lb := 0, cl := 3, pg := [[vN (2), vN (0), vN (0), vN (0)], [vN (1), vN (0), vN (0), vN (0)], [vN (3), vN (0), vN (0), vN (0)]], st := IntKind.wrap IntKind.i64 (1 + IntKind.wrap IntKind.i64 (Int.tmod (Int.fdiv (IntKind.wrap IntKind.u64 w) (8)) (6))), pc := 1, r0 := 5, r1 := 0, r2 := 0, r3 := 0, rd := [[vN (0), vN (0), vN (0)]], wt := [], at' := 0, sp := 0, tr := 0, rs := 0, to := 0 }, { id := 5, lb := 1, cl := 1, pg := [[vN (2), vN (0), vN (0), vN (1)], [vN (3), vN (0), vN (1), vN (0)]], st := 0, pc := 0, r0 := 0, r1 := 0, r2 := 0, r3 := 0, rd := [], wt := [], at' := 0, sp := 0, tr := 0, rs := 0, to := 0 }] (0) ∧ K (B true) else bif Int.tmod (IntKind.wrap IntKind.u64 w) (7) == 3 then noAt (has3 (0) (1) (4)) { w0 := [[vN (5), vN (0), vN (0)], [vN (6), vN (0), vN (0)]], w1 := [[vN (7), vN (0), vN (0)]], w2 := [], w3 := [[vN (9), vN (0), vN (0)]], c0 := 0, c1 := 0, c2 := 0, c3 := 0, ce := 9, tr := [[vN (3), vN (0), vN (0), vN (5)]] } [{ id := 3, lb := 0, cl := 3, pg := [[vN (2), vN (0), vN (0), vN (0)], [vN (1), vN (0), vN (0), vN (0)], [vN (3), vN (0), vN (0), vN (0)]], st := 0, pc := 3, r0 := 5, r1 := 0, r2 := 0, r3 := 0, rd := [[vN (0), vN (0), vN (0)]], wt := [], at' := 0, sp := 0, tr := 0, rs := 0, to := 0 }, { id := 5, lb := 1, cl := 1, pg := [[vN (2), vN (0), vN (0), vN (1)], [vN (3), vN (0), vN (1), vN (0)]], st := 0, pc := 0, r0 := 0, r1 := 0, r2 := 0, r3 := 0, rd := [], wt := [], at' := 0, sp := 0, tr := 0, rs := 0, to := 0 }] (0) ∧ K (B true) else bif Int.tmod (IntKind.wrap IntKind.u64 w) (7) == 4 then noAt (has3 (0) (1) (4)) { w0 := [[vN (5), vN (0), vN (0)], [vN (6), vN (0), vN (0)]], w1 := [[vN (7), vN (0), vN (0)]], w2 := [], w3 := [[vN (9), vN (0), vN (0)]], c0 := 0, c1 := 0, c2 := 0, c3 := 0, ce := 9, tr := [[vN (3), vN (0), vN (0), vN (5)]] } [{ id := 3, lb := 0, cl := 3, pg := [[vN (2), vN (0), vN (0), vN (0)], [vN (1), vN (0), vN (0), vN (0)], [vN (3), vN (0), vN (0), vN (0)]], st := 0, pc := IntKind.wrap IntKind.i64 (2 * an (Int.fdiv w (8)) (1)), r0 := 5, r1 := 0, r2 := 0, r3 := 0, rd := [[vN (0), vN (0), vN (0)]], wt := [], at' := 0, sp := 0, tr := 0, rs := 0, to := 0 }, { id := 5, lb := 1, cl := 1, pg := [[vN (2), vN (0), vN (0), vN (1)], [vN (3), vN (0), vN (1), vN (0)]], st := 0, pc := 0, r0 := 0, r1 := 0, r2 := 0, r3 := 0, rd := [], wt := [], at' := 0, sp := 0, tr := 0, rs := 0, to := 0 }] (0) ∧ K (B true) else bif Int.tmod (IntKind.wrap IntKind.u64 w) (7) == 5 then noAt (has3 (0) (1) (4)) { w0 := [[vN (5), vN (0), vN (0)], [vN (6), vN (0), vN (0)]], w1 := [[vN (7), vN (0), vN (0)]], w2 := [], w3 := [[vN (9), vN (0), vN (0)]], c0 := 0, c1 := 0, c2 := 0, c3 := 0, ce := 9, tr := [[vN (3), vN (0), vN (0), vN (5)]] } [{ id := 3, lb := 0, cl := 3, pg := [[vN (2), vN (0), vN (0), vN (0)], [vN (5), vN (0), vN (0), vN (0)], [vN (3), vN (0), vN (0), vN (0)]], st := 0, pc := 1, r0 := 5, r1 := 0, r2 := 0, r3 := 0, rd := [[vN (0), vN (0), vN (0)]], wt := [], at' := 0, sp := 0, tr := 0, rs := 0, to := 0 }, { id := 5, lb := 1, cl := 1, pg := [[vN (2), vN (0), vN (0), vN (1)], [vN (3), vN (0), vN (1), vN (0)]], st := 0, pc := 0, r0 := 0, r1 := 0, r2 := 0, r3 := 0, rd := [], wt := [], at' := 0, sp := 0, tr := 0, rs := 0, to := 0 }] (0) ∧ K (B true) else noAt (has3 (0) (1) (4)) { w0 := [[vN (5), vN (0), vN (0)], [vN (6), vN (0), vN (0)]], w1 := [[vN (7), vN (0), vN (0)]], w2 := [], w3 := [[vN (9), vN (0), vN (0)]], c0 := 0, c1 := 0, c2 := 0, c3 := 0, ce := 9, tr := [[vN (3), vN (0), vN (0), vN (5)]] } [{ id := 3, lb := 0, cl := 3, pg := [[vN (2), vN (0), vN (0), vN (0)], [vN (6), vN (3), vN (0), vN (0)], [vN (3), vN (0), vN (0), vN (0)]], st := 0, pc := 1, r0 := 5, r1 := 0, r2 := 0, r3 := 0, rd := [[vN (0), vN (0), vN (0)]], wt := [], at' := 0, sp := 0, tr := 0, rs := 0, to := 0 }, { id := 5, lb := 1, cl := 1, pg := [[vN (2), vN (0), vN (0), vN (1)], [vN (3), vN (0), vN (1), vN (0)]], st := 0, pc := 0, r0 := 0, r1 := 0, r2 := 0, r3 := 0, rd := [], wt := [], at' := 0, sp := 0, tr := 0, rs := 0, to := 0 }] (0) ∧ K (B true)) := by kernel_rfl
theorem noAt_m {p : Int → Bool} {h : Mh} {ss : List SesD} {i : Int} (hm : mmay h ss = false) : noAt p h ss i := by unfold noAt mAt mthere; rw [hm]; rfl
theorem noAt_i {p : Int → Bool} {h : Mh} {ss : List SesD} {i : Int} (hi : i < 0 ∨ (ss.length : Int) ≤ i) : noAt p h ss i := by
  unfold noAt mAt mthere
  rcases hi with hi | hi
  · rw [decide_eq_false (show ¬ i ≥ 0 by omega)]; simp
  · rw [decide_eq_false (show ¬ i < ss.length by omega)]; simp
theorem noAt_s {p : Int → Bool} {h : Mh} {s : SesD} {ss : List SesD} (hs : atS p s = false) : noAt p h (s :: ss) 0 := by
  unfold noAt mAt
  show (_ && atS p s) = false
  rw [hs]; simp
theorem cCF (w x : Int) : CT Tryz.prog 12 [I w, I x] (B true) := by
  refine ct_h (hkN_ok (.cons oAw17 (.cons oSM (.cons oNum .nil))) .nil (.cons iCalE_ok (.cons iStd17_1_ok .nil))) mixed hkN_loops Tryz.func12 rfl rfl rfl ?_
  rw [eCF]
  refine ⟨⟨rfl, rfl, ?_⟩⟩
  obtain ⟨d, hd, d1, d2⟩ := d1023 x
  obtain ⟨u0, u1⟩ := umod (w := w) (n := 7) (by omega)
  have hb : band (Int.fdiv w 8) 1 = 0 ∨ band (Int.fdiv w 8) 1 = 1 := by have := mask1 (Int.fdiv w 8); omega
  have hs : ∃ q : Int, IntKind.wrap IntKind.i64 (1 + IntKind.wrap IntKind.i64 (Int.tmod (Int.fdiv (IntKind.wrap IntKind.u64 w) 8) 6)) = q ∧ 1 ≤ q := by
    have hu : 0 ≤ IntKind.wrap .u64 w := by simp [IntKind.wrap, IntKind.signed, IntKind.bits]; omega
    have h8 : 0 ≤ Int.fdiv (IntKind.wrap .u64 w) 8 := Int.fdiv_nonneg hu (by omega)
    have h1 := Int.tmod_nonneg 6 h8
    have h2 := Int.tmod_lt_of_pos (Int.fdiv (IntKind.wrap .u64 w) 8) (show (0 : Int) < 6 by omega)
    refine ⟨_, rfl, ?_⟩
    rw [wrap_id (x := Int.tmod (Int.fdiv (IntKind.wrap .u64 w) 8) 6) (by omega) (by omega), wrap_id (by omega) (by omega)]
    omega
  obtain ⟨q, hq, q1⟩ := hs
  simp only [hd, hq, wrap_id (x := 0 - d) (by omega) (by omega), wrap_id (x := 1 + d) (by omega) (by omega)]
  generalize Int.tmod (IntKind.wrap IntKind.u64 w) 7 = u at u0 u1 ⊢
  have hu : u = 0 ∨ u = 1 ∨ u = 2 ∨ u = 3 ∨ u = 4 ∨ u = 5 ∨ u = 6 := by omega
  rcases hu with rfl | rfl | rfl | rfl | rfl | rfl | rfl <;> simp only [Int.reduceBEq, cond_true, cond_false]
  · rcases hb with e | e <;> rw [e]
    · exact ⟨noAt_i (.inl (show 0 - d < 0 by omega)), trivial⟩
    · exact ⟨noAt_i (.inr (show (2 : Int) ≤ 1 + d by omega)), trivial⟩
  · exact ⟨noAt_m (mm_ck (by simp [clkB, clk, upto_f (x := -d) (lo := 0) (hi := 65535) (by omega)])), trivial⟩
  · refine ⟨noAt_s ?_, trivial⟩
    have : (q == 0) = false := by simp; omega
    unfold atS; simp only [this]; rfl
  · exact ⟨noAt_s rfl, trivial⟩
  · rcases hb with e | e <;> rw [e]
    · exact ⟨noAt_s rfl, trivial⟩
    · exact ⟨noAt_s rfl, trivial⟩
  · exact ⟨noAt_s rfl, trivial⟩
  · exact ⟨noAt_s rfl, trivial⟩
end

end Vm
