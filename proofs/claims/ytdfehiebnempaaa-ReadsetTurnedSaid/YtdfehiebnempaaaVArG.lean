/- What the functions of this text do, told by an interpreter that is proved right (YtdfehiebnempaaaVA to VD). My own work. -/
import Derived.Test.YtdfehiebnempaaaVArF
namespace Vm
open Go Go.Proofs
set_option linter.unusedSimpArgs false
set_option linter.unusedVariables false
set_option maxRecDepth 100000
theorem okZ_pO {b : Bool} {R : List (List D)} (h : okZ 3 R = true) : okZ 3 (pO b R) = true := by
  cases b
  · rfl
  · exact h
theorem okA_mk {R0 R1 R2 R3 : List (List D)} (h0 : okZ 3 R0 = true) (h1 : okZ 3 R1 = true) (h2 : okZ 3 R2 = true) (h3 : okZ 3 R3 = true) : okA R0 R1 R2 R3 = true := by simp [okA, h0, h1, h2, h3]
theorem putR.ok {R0 R1 R2 R3 P0 P1 P2 P3 : List (List D)} {lv num a b c e : Int} (h : putR R0 R1 R2 R3 lv num a b c P0 P1 P2 P3 e) (hR : okA R0 R1 R2 R3 = true) : okZ 3 P0 = true ∧ okZ 3 P1 = true ∧ okZ 3 P2 = true ∧ okZ 3 P3 = true := by
  obtain ⟨rfl, rfl, rfl, rfl, _⟩ := h
  obtain ⟨a0, a1, a2, a3⟩ := okA_spec hR
  exact ⟨okZ_pO (okA_pt a0 _ _ _ _ _ _), okZ_pO (okA_pt a1 _ _ _ _ _ _), okZ_pO (okA_pt a2 _ _ _ _ _ _), okZ_pO (okA_pt a3 _ _ _ _ _ _)⟩
theorem newR.ok {V0 V1 V2 V3 P0 P1 P2 P3 : List (List D)} {e : Int} (h : newR V0 V1 V2 V3 P0 P1 P2 P3 e) (hV : okV4 V0 V1 V2 V3 = true) : okZ 3 P0 = true ∧ okZ 3 P1 = true ∧ okZ 3 P2 = true ∧ okZ 3 P3 = true := by
  obtain ⟨rfl, rfl, rfl, rfl, _⟩ := h
  obtain ⟨⟨a0, _⟩, ⟨a1, _⟩, ⟨a2, _⟩, ⟨a3, _⟩⟩ := okV4_spec hV
  exact ⟨okZ_pO (okZ_mW a0), okZ_pO (okZ_mW a1), okZ_pO (okZ_mW a2), okZ_pO (okZ_mW a3)⟩
theorem newR.det {V0 V1 V2 V3 P0 P1 P2 P3 S0 S1 S2 S3 : List (List D)} {e f : Int} (h : newR V0 V1 V2 V3 P0 P1 P2 P3 e) (h' : newR V0 V1 V2 V3 S0 S1 S2 S3 f) : S0 = P0 ∧ S1 = P1 ∧ S2 = P2 ∧ S3 = P3 ∧ f = e := by
  obtain ⟨rfl, rfl, rfl, rfl, rfl⟩ := h
  obtain ⟨rfl, rfl, rfl, rfl, rfl⟩ := h'
  exact ⟨rfl, rfl, rfl, rfl, rfl⟩
theorem putR.det {R0 R1 R2 R3 P0 P1 P2 P3 S0 S1 S2 S3 : List (List D)} {lv num a b c e f : Int} (h : putR R0 R1 R2 R3 lv num a b c P0 P1 P2 P3 e) (h' : putR R0 R1 R2 R3 lv num a b c S0 S1 S2 S3 f) : S0 = P0 ∧ S1 = P1 ∧ S2 = P2 ∧ S3 = P3 ∧ f = e := by
  obtain ⟨rfl, rfl, rfl, rfl, rfl⟩ := h
  obtain ⟨rfl, rfl, rfl, rfl, rfl⟩ := h'
  exact ⟨rfl, rfl, rfl, rfl, rfl⟩
theorem getR.det {R0 R1 R2 R3 : List (List D)} {lv num g0 g1 g2 e k0 k1 k2 f : Int} (h : getR R0 R1 R2 R3 lv num g0 g1 g2 e) (h' : getR R0 R1 R2 R3 lv num k0 k1 k2 f) : k0 = g0 ∧ k1 = g1 ∧ k2 = g2 ∧ f = e := by
  obtain ⟨h1, rfl⟩ := h
  obtain ⟨h2, rfl⟩ := h'
  have := h2.trans h1.symm
  simp at this
  exact ⟨this.1, this.2.1, this.2.2, rfl⟩
theorem eqI_self (a : List Int) : eqI a a = true := by rw [eqI_beq a a rfl]; simp
theorem take_own (R : List (List D)) : List.take R.length R ++ List.take (R.length + 0 - R.length) (List.drop R.length R) = R := by simp
/-! ### the plain law: one word turns -/
def ptL (lv k num : Int) (wl : List Int) (l : List (List Int)) : List (List Int) := bif decide (lv = k) then l.set num.toNat wl else l
theorem toZ_ptL (lv k num a b c : Int) (R : List (List D)) : toZ (pt lv k num (w3 a b c) R) = ptL lv k num [a, b, c] (toZ R) := toZ_pt lv k num a b c R
theorem ptL_len (lv k num : Int) (wl : List Int) (l : List (List Int)) : (ptL lv k num wl l).length = l.length := by
  unfold ptL; cases decide (lv = k) <;> simp
theorem rowMay_ptL {l : List (List Int)} {wl : List Int} (h : rowMay l = true) (hw : wmayR wl = true) (lv k num : Int) : rowMay (ptL lv k num wl l) = true := by
  unfold ptL
  cases decide (lv = k) with
  | false => exact h
  | true =>
    simp only [cond_true]
    simp only [rowMay, Bool.not_eq_true', Bool.or_eq_false_iff, List.length_set] at h ⊢
    refine ⟨h.1, ?_⟩
    have h2 := h.2
    unfold badW at h2 ⊢
    rw [List.any_eq_false] at h2 ⊢
    intro x hx
    rcases List.mem_or_eq_of_mem_set hx with hx | rfl
    · exact h2 x hx
    · simp [hw]
theorem amay_ptL {a b c d : List (List Int)} {wl : List Int} (h : amay a b c d = true) (hw : wmayR wl = true) (lv num : Int) : amay (ptL lv 0 num wl a) (ptL lv 1 num wl b) (ptL lv 2 num wl c) (ptL lv 3 num wl d) = true := by
  simp only [amay, Bool.and_eq_true] at h ⊢
  exact ⟨rowMay_ptL h.1 hw _ _ _, rowMay_ptL h.2.1 hw _ _ _, rowMay_ptL h.2.2.1 hw _ _ _, rowMay_ptL h.2.2.2 hw _ _ _⟩
theorem gokA_ptL {a b c d : List (List Int)} {x y z : Int} {lv num : Int} (h : pokA a b c d lv num x y z = true) (g i : Int) : gokA (ptL lv 0 num [x, y, z] a) (ptL lv 1 num [x, y, z] b) (ptL lv 2 num [x, y, z] c) (ptL lv 3 num [x, y, z] d) g i = gokA a b c d g i := by
  simp only [pokA, gokA, Bool.and_eq_true] at h
  unfold gokA
  rw [amay_ptL h.1.1 (show wmayR [x, y, z] = true from h.2) lv num, h.1.1]
  simp only [ptL_len]
theorem set_get {l : List (List Int)} {i j : Nat} {wl : List Int} (hi : i < l.length) : (l.set i wl).getD j [] = if i = j then wl else l.getD j [] := by
  by_cases e : i = j
  · subst e; simp [List.getD_eq_getElem?_getD, hi]
  · simp [List.getD_eq_getElem?_getD, e]
theorem set_get' {l : List (List Int)} {i j : Nat} {wl : List Int} (hi : i < l.length) : (l.set i wl)[j]?.getD [] = if i = j then wl else l[j]?.getD [] := by
  have := set_get (j := j) (wl := wl) hi
  simpa [List.getD_eq_getElem?_getD] using this
theorem gA4_ptL {a b c d : List (List Int)} {x y z : Int} {lv num : Int} (h : pokA a b c d lv num x y z = true) {g i : Int} (hg : gokA a b c d g i = true) :
    gA4 (ptL lv 0 num [x, y, z] a) (ptL lv 1 num [x, y, z] b) (ptL lv 2 num [x, y, z] c) (ptL lv 3 num [x, y, z] d) g i = if g = lv ∧ i = num then [x, y, z] else gA4 a b c d g i := by
  unfold gA4
  rw [gokA_ptL h, hg]
  simp only [cond_true]
  have hl : gokA a b c d lv num = true := by simp only [pokA, Bool.and_eq_true] at h; exact h.1
  simp only [gokA, Bool.and_eq_true] at hl hg
  obtain ⟨i', rfl, hi⟩ := thr_spec hg.2
  obtain ⟨n', rfl, hn⟩ := thr_spec hl.2
  have e : ((i' : Int) = (n' : Int)) = (n' = i') := propext ⟨fun h => by omega, fun h => by omega⟩
  rcases hi with ⟨rfl, hi⟩ | ⟨rfl, hi⟩ | ⟨rfl, hi⟩ | ⟨rfl, hi⟩ <;> rcases hn with ⟨rfl, hn⟩ | ⟨rfl, hn⟩ | ⟨rfl, hn⟩ | ⟨rfl, hn⟩ <;> simp [selA, wrd, ptL, set_get' hn, e]
/-! ### ArenaOne -/
theorem putR.get {R0 R1 R2 R3 P0 P1 P2 P3 : List (List D)} {lv num a b c e : Int} (h : putR R0 R1 R2 R3 lv num a b c P0 P1 P2 P3 e) (hok : pokA (toZ R0) (toZ R1) (toZ R2) (toZ R3) lv num a b c = true) {g i k0 k1 k2 f m0 m1 m2 n : Int} (h1 : getR P0 P1 P2 P3 g i k0 k1 k2 f) (h2 : getR R0 R1 R2 R3 g i m0 m1 m2 n) :
    f = n ∧ (g = lv ∧ i = num → [k0, k1, k2] = [a, b, c] ∧ f = 0) ∧ (¬ (g = lv ∧ i = num) → [k0, k1, k2] = [m0, m1, m2]) := by
  obtain ⟨rfl, rfl, rfl, rfl, _⟩ := h
  rw [hok] at h1
  obtain ⟨g1, g2⟩ := h1
  obtain ⟨q1, q2⟩ := h2
  simp only [pO, cond_true, toZ_ptL] at g1 g2
  rw [gokA_ptL hok] at g2
  refine ⟨g2.trans q2.symm, fun hh => ?_, fun hh => ?_⟩
  · obtain ⟨rfl, rfl⟩ := hh
    have hg : gokA (toZ R0) (toZ R1) (toZ R2) (toZ R3) g i = true := by simp only [pokA, Bool.and_eq_true] at hok; exact hok.1
    rw [gA4_ptL hok hg, if_pos ⟨rfl, rfl⟩] at g1
    rw [hg] at g2
    exact ⟨g1, g2⟩
  · cases hg : gokA (toZ R0) (toZ R1) (toZ R2) (toZ R3) g i with
    | true =>
      rw [gA4_ptL hok hg, if_neg hh] at g1
      exact g1.trans q1.symm
    | false =>
      unfold gA4 at g1 q1
      rw [gokA_ptL hok, hg] at g1
      rw [hg] at q1
      exact g1.trans q1.symm
theorem pe_ne {b : Bool} (h : (pe b != 0) = false) : b = true := by
  cases b with
  | false => cases h
  | true => rfl
theorem c4 {R0 R1 R2 R3 : List (List D)} (p0 p1 p2 p3 : List (List D)) (lv num a b c g i : Int) (hA : okA R0 R1 R2 R3 = true) (hC : okC4 R0 R1 R2 R3 = true) : CT Try.prog 4 [dA R0 p0 R1 p1 R2 p2 R3 p3, I lv, I num, .agg [vi a, vi b, vi c], I g, I i] (B true) := by
  refine ct_of_evp (H := gL [(22, sGetC), (24, sPutC), (26, sSameA), (27, sI), (31, sT)])
    (hkl_ok (m := []) (.cons oGetC (.cons oPutC (.cons oSameA (.cons oNum (.cons oAw .nil)))))) mixed 200 Try.func4 rfl (fun b hb s hs => by cases hs) (Nat.le_of_ble_eq_true rfl) rfl ?_
  show askL4 _ Try.f4 _ _
  rw [e4]
  simp only [hA, hC, Bool.and_self, cond_true]
  intro P0 P1 P2 P3 e hp
  obtain ⟨z0, z1, z2, z3⟩ := hp.ok hA
  simp only [List.append_nil, Nat.zero_add, Nat.le_refl, decide_true, cond_true, cut_all rfl, okA_mk z0 z1 z2 z3, Bool.and_true]
  cases he : (e != 0) with
  | true =>
    simp only [cond_true]
    obtain ⟨rfl, rfl, rfl, rfl, rfl⟩ := hp
    cases hk : pokA (toZ R0) (toZ R1) (toZ R2) (toZ R3) lv num a b c with
    | true => rw [hk] at he; cases he
    | false => simp [pO]
  | false =>
    simp only [cond_false]
    have hok : pokA (toZ R0) (toZ R1) (toZ R2) (toZ R3) lv num a b c = true := by rw [hp.2.2.2.2] at he; exact pe_ne he
    intro g0 g1 g2 f h1 k0 k1 k2 f' h2 m0 m1 m2 n h3
    obtain ⟨e1, e2, e3⟩ := hp.get hok h2 h3
    have hl : gokA (toZ R0) (toZ R1) (toZ R2) (toZ R3) lv num = true := by simp only [pokA, Bool.and_eq_true] at hok; exact hok.1
    have h4 : getR R0 R1 R2 R3 lv num ((gA4 (toZ R0) (toZ R1) (toZ R2) (toZ R3) lv num).getD 0 0) ((gA4 (toZ R0) (toZ R1) (toZ R2) (toZ R3) lv num).getD 1 0) ((gA4 (toZ R0) (toZ R1) (toZ R2) (toZ R3) lv num).getD 2 0) 0 := by
      obtain ⟨a0, a1, a2, a3⟩ := okA_spec hA
      have hl3 := wrd_3 (okZ_spec a0).2.1 (okZ_spec a1).2.1 (okZ_spec a2).2.1 (okZ_spec a3).2.1 lv num
      refine ⟨?_, by rw [hl]; rfl⟩
      revert hl3
      generalize gA4 (toZ R0) (toZ R1) (toZ R2) (toZ R3) lv num = q
      intro hl3
      match q, hl3 with
      | [x, y, z], _ => rfl
    obtain ⟨_, d2, _⟩ := hp.get hok h1 h4
    obtain ⟨d3, d4⟩ := d2 ⟨rfl, rfl⟩
    rw [d3, d4, e1, eqI_self]
    simp only [beq_self_eq_true, cond_true]
    by_cases hg : g = lv
    · by_cases hi : i = num
      · subst hg hi; simp
      · have : (i == num) = false := by simp [hi]
        rw [this, e3 (fun hh => hi hh.2), eqI_self]; simp [hg]
    · have : (g == lv) = false := by simp [hg]
      rw [this, e3 (fun hh => hg hh.1), eqI_self]; simp
/-! ### Arenas -/
theorem c3 {R0 R1 R2 R3 V0 V1 V2 V3 : List (List D)} (p0 p1 p2 p3 q0 q1 q2 q3 : List (List D)) (lv num a b c : Int) (hA : okA R0 R1 R2 R3 = true) (hC : okC4 R0 R1 R2 R3 = true) (hV : okV4 V0 V1 V2 V3 = true) : CT Try.prog 3 [dA R0 p0 R1 p1 R2 p2 R3 p3, dV V0 q0 V1 q1 V2 q2 V3 q3, I lv, I num, .agg [vi a, vi b, vi c]] (B true) := by
  refine ct_of_evp (H := gL [(19, sACopy), (20, sNewC), (21, sNewC), (22, sGetC), (23, sGetC), (24, sPutC), (25, sPutC), (26, sSameA), (27, sI), (28, sAMay), (29, sAMay), (30, sSpoilA), (31, sT)])
    (hkl_ok (m := []) (.cons oLCopy (.cons oNewC (.cons oRNewC (.cons oGetC (.cons oRGetC (.cons oPutC (.cons oRPutC (.cons oSameA (.cons oNum (.cons oAMay (.cons oRAMay (.cons oSpoilA (.cons oAw .nil)))))))))))))) mixed 200 Try.func3 rfl (fun b hb s hs => by cases hs) (Nat.le_of_ble_eq_true rfl) rfl ?_
  show askL4 _ Try.f3 _ _
  rw [e3]
  simp only [hA, hC, hV, Bool.and_self, cond_true, List.append_nil, Nat.zero_add, Nat.le_refl, decide_true, cut_all rfl]
  intro P0 P1 P2 P3 e hn S0 S1 S2 S3 e' hn' g0 g1 g2 f hg k0 k1 k2 f' hg' W0 W1 W2 W3 u hp X0 X1 X2 X3 u' hp'
  obtain ⟨rfl, rfl, rfl, rfl, rfl⟩ := hn.det hn'
  obtain ⟨rfl, rfl, rfl, rfl⟩ := hg.det hg'
  obtain ⟨rfl, rfl, rfl, rfl, rfl⟩ := hp.det hp'
  obtain ⟨z0, z1, z2, z3⟩ := hn.ok hV
  obtain ⟨y0, y1, y2, y3⟩ := hp.ok hA
  simp only [okA_mk z0 z1 z2 z3, okA_mk y0 y1 y2 y3, z0, z1, z2, z3, y0, y1, y2, y3, hA, allV_ok z0, allV_ok z1, allV_ok z2, allV_ok z3, allV_ok y0, allV_ok y1, allV_ok y2, allV_ok y3, keeps_of (allV_ok z0), keeps_of (allV_ok z1), keeps_of (allV_ok z2), keeps_of (allV_ok z3), keeps_of (allV_ok y0), keeps_of (allV_ok y1), keeps_of (allV_ok y2), keeps_of (allV_ok y3), take_own, eqI_self, bne_self_eq_false, beq_self_eq_true, Bool.and_self, Bool.not_true, cond_true, cond_false, List.append_nil, Nat.zero_add, Nat.le_refl, decide_true, cut_all rfl]
end Vm