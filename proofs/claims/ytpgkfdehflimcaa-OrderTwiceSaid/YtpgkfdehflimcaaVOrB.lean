/- What the functions of this text do, told by an interpreter that is proved right (YtpgkfdehflimcaaVA to VD). My own work. -/
import Derived.Test.YtpgkfdehflimcaaVOrA
import Derived.Test.YtpgkfdehflimcaaVD
namespace Vm
open Go Go.Proofs
set_option linter.unusedSimpArgs false
set_option linter.unusedVariables false
theorem okR_get {R : List (List D)} (h : okR R = true) {i : Nat} (hi : i < R.length) : isJ [IntKind.i64] (R.getD i []) = true := by
  simp only [okR, Bool.and_eq_true] at h
  have := List.all_eq_true.1 h.1 R[i] (List.getElem_mem hi)
  rw [Bool.and_eq_true] at this
  have := this.1
  simpa [List.getD_eq_getElem?_getD, hi] using this
theorem okR_len {R : List (List D)} (h : okR R = true) : R.length ≤ 9223372036854775807 := by
  simp only [okR, Bool.and_eq_true] at h
  exact Nat.le_of_ble_eq_true h.2
theorem toI_len (R : List (List D)) : (toI R).length = R.length := by simp [toI]
theorem toI_get {R : List (List D)} {i : Nat} (hi : i < R.length) : hdJ (R.getD i []) = (toI R).getD i 0 := by
  simp [toI, List.getD_eq_getElem?_getD, hi]
theorem take_s {α : Type} {l : List α} {i : Nat} (d : α) (hi : i < l.length) : l.take (i + 1) = l.take i ++ [l.getD i d] := by
  rw [List.take_add_one]
  simp [List.getD_eq_getElem?_getD, hi]
theorem any_take {l : List Int} {i : Nat} {p : Int → Bool} (hi : i < l.length) : (l.take (i + 1)).any p = ((l.take i).any p || p (l.getD i 0)) := by
  rw [take_s 0 hi]; simp
theorem any_get {l : List Int} {i : Nat} {p : Int → Bool} (hi : i < l.length) (h : p (l.getD i 0) = true) : l.any p = true := by
  simp only [List.any_eq_true]
  refine ⟨l.getD i 0, ?_, h⟩
  simp [List.getD_eq_getElem?_getD, hi]

theorem o68 : SpecOK Try.prog 68 (sB olab) := oB Try.func68 (by kernel_rfl) rfl fun x => ct_ask (.cons o48 .nil) mixed Try.func68 rfl rfl rfl (by
  rw [e68]; rfl)
theorem c64 (a b : Int) : CT Try.prog 64 [I a, I b] (jn a b).dv := ct_askL (l := [(48, sB lab)]) (m := []) (.cons o48 .nil) mixed (loops_nil rfl) Try.func64 rfl rfl rfl (by
  show askA band bor Try.prog _ _ Try.f64 _ _
  rw [e64]
  unfold jn
  cases lab a <;> cases lab b <;> rfl)
theorem o64 : SpecOK Try.prog 64 sJn := fun ds Q h => by
  unfold sJn at h; split at h
  · exact ⟨goes_of Try.func64 (by kernel_rfl) rfl, _, c64 _ _, rfl, rfl, h⟩
  · exact h.elim
theorem oUnd {f : FuncId} {fn : Func} (hf : Try.prog.funcs[f]? = some fn) (hn : (fn.name == "runtime.NumGoroutine") = false) (hb : fn.body.isNone = false) (hc : ∀ a b, CT Try.prog f [I a, I b] (B (und a b))) : SpecOK Try.prog f sUnd := fun ds Q h => by
  unfold sUnd at h; split at h
  · exact ⟨goes_of hf hn hb, _, hc _ _, rfl, rfl, h⟩
  · exact h.elim
theorem o65 : SpecOK Try.prog 65 sUnd := oUnd Try.func65 (by kernel_rfl) rfl fun a b => ct_askL (l := []) (m := []) .nil mixed (loops_nil rfl) Try.func65 rfl rfl rfl (by
  show askA band bor Try.prog _ _ Try.f65 _ _
  rw [e65]; rfl)
theorem o46 : SpecOK Try.prog 46 sUnd := oUnd Try.func46 (by kernel_rfl) rfl fun a b => ct_askL (l := []) (m := []) .nil mixed (loops_nil rfl) Try.func46 rfl rfl rfl (by
  show askA band bor Try.prog _ _ Try.f46 _ _
  rw [e46]; rfl)

/-! ### the loops -/
theorem s69_ok {R sp : List (List D)} (hR : okR R = true) (Q : Exit → X → Prop) (x : X) (h : s69 R sp Q x) : XWP Try.prog (.loop (bodyL Try.f69 0)) Q x := by
  obtain ⟨h1, h2, h3⟩ := h
  have hn := okR_len hR
  refine xwp_roundH (ι := Nat) (H := hkA band bor [(68, sB olab)] []) (fn := Try.f69) (i := 0) (ts := [0, 1, 4, 7, 8]) (ks := []) (hkl_ok (.cons o68 .nil)) mixed (loops_nil rfl)
    (fun i => St69 R sp i 0) (fun i => i ≤ R.length ∧ ∀ j, j < i → olab ((toI R).getD j 0) = false) (fun i => R.length - i) 0 (V69 R sp) (V69 R sp) (fun i hp => ?_) ⟨Nat.zero_le _, fun j hj => by omega⟩ h1
  obtain ⟨hi, hj⟩ := hp
  show roundA band bor Try.prog _ _ Try.f69 0 _ _ _ _ _ _ _
  rw [e69r]
  by_cases hl : i < R.length
  · have wi : IntKind.wrap .i64 ((i : Int) + 1) = ((i + 1 : Nat) : Int) := wrap_id (by omega) (by omega)
    simp only [Int.ofNat_lt, hl, decide_true, cond_true, Int.natCast_nonneg, Bool.and_self, Int.toNat_natCast, List.drop_zero, okR_get hR hl, toI_get hl, wi, true_and]
    cases ho : olab ((toI R).getD i 0) with
    | true =>
      refine h2 i ?_
      rw [fx, List.findIdx?_eq_some_iff_getElem]
      refine ⟨by rw [toI_len]; exact hl, ?_, fun j hji => ?_⟩
      · simpa [List.getD_eq_getElem?_getD, toI_len, hl] using ho
      · have := hj j hji
        have hjl : j < R.length := by omega
        simpa [List.getD_eq_getElem?_getD, toI_len, hjl] using this
    | false =>
      refine ⟨i + 1, by omega, ⟨hl, fun j hji => ?_⟩, rfl⟩
      rcases Nat.lt_succ_iff_lt_or_eq.1 hji with hji | rfl
      · exact hj j hji
      · exact ho
  · have e : i = R.length := by omega
    subst e
    simp only [Int.ofNat_lt, Nat.lt_irrefl, decide_false, cond_false, true_and]
    refine h3 ?_
    rw [fx, List.findIdx?_eq_none_iff]
    intro x hx
    obtain ⟨j, hj', rfl⟩ := List.mem_iff_getElem.1 hx
    have hjl : j < R.length := by rw [toI_len] at hj'; exact hj'
    have := hj j hjl
    simpa [List.getD_eq_getElem?_getD, toI_len, hjl] using this

theorem jnA_s {l : List Int} {i : Nat} (hi : i < l.length) : (jn (jnA (l.take i)) (l.getD i 0)).a = jnA (l.take (i + 1)) := by
  rw [take_s 0 hi]; simp [jnA]
theorem s40_ok {R sp : List (List D)} (hR : okR R = true) (Q : Exit → X → Prop) (x : X) (h : s40 R sp Q x) : XWP Try.prog (.loop (bodyL Try.f40 0)) Q x := by
  obtain ⟨h1, h2⟩ := h
  have hn := okR_len hR
  refine xwp_roundH (ι := Nat) (H := hkA band bor [(64, sJn)] []) (fn := Try.f40) (i := 0) (ts := [0, 4, 9, 10, 11]) (ks := []) (hkl_ok (.cons o64 .nil)) mixed (loops_nil rfl)
    (fun i => St40 R sp i (jnA ((toI R).take i))) (fun i => i ≤ R.length) (fun i => R.length - i) 0 (V40 R sp) (V40 R sp) (fun i hi => ?_) (Nat.zero_le _) h1
  show roundA band bor Try.prog _ _ Try.f40 0 _ _ _ _ _ _ _
  rw [e40r]
  by_cases hl : i < R.length
  · have wi : IntKind.wrap .i64 ((i : Int) + 1) = ((i + 1 : Nat) : Int) := wrap_id (by omega) (by omega)
    simp only [Int.ofNat_lt, hl, decide_true, cond_true, Int.natCast_nonneg, Bool.and_self, Int.toNat_natCast, List.drop_zero, okR_get hR hl, toI_get hl, wi, true_and]
    exact ⟨i + 1, by omega, hl, by rw [jnA_s (by rw [toI_len]; exact hl)]⟩
  · have e : i = R.length := by omega
    subst e
    simp only [Int.ofNat_lt, Nat.lt_irrefl, decide_false, cond_false, true_and]
    rw [← toI_len R, List.take_length, toI_len R]
    exact h2

theorem joinA_s {l : List Int} {i : Nat} (hi : i < l.length) : bor (joinA (l.take i)) (l.getD i 0) = joinA (l.take (i + 1)) := by
  rw [take_s 0 hi]; simp [joinA]
theorem s41_ok {R sp : List (List D)} (hR : okR R = true) (Q : Exit → X → Prop) (x : X) (h : s41 R sp Q x) : XWP Try.prog (.loop (bodyL Try.f41 0)) Q x := by
  obtain ⟨h1, h2, h3⟩ := h
  have hn := okR_len hR
  refine xwp_roundH (ι := Nat) (H := hkA band bor [(49, sB lab)] []) (fn := Try.f41) (i := 0) (ts := [0, 2, 3, 4, 5]) (ks := []) (hkl_ok (.cons o49 .nil)) mixed (loops_nil rfl)
    (fun i => St41 R sp i (joinA ((toI R).take i)) 0 0) (fun i => i ≤ R.length ∧ ((toI R).take i).any olab = false) (fun i => R.length - i) 0 (V41 R sp) (V41 R sp) (fun i hp => ?_) ⟨Nat.zero_le _, by simp⟩ h1
  obtain ⟨hi, hj⟩ := hp
  show roundA band bor Try.prog _ _ Try.f41 0 _ _ _ _ _ _ _
  rw [e41r]
  by_cases hl : i < R.length
  · have wi : IntKind.wrap .i64 ((i : Int) + 1) = ((i + 1 : Nat) : Int) := wrap_id (by omega) (by omega)
    have hl' : i < (toI R).length := by rw [toI_len]; exact hl
    simp only [Int.ofNat_lt, hl, decide_true, cond_true, Int.natCast_nonneg, Bool.and_self, Int.toNat_natCast, List.drop_zero, okR_get hR hl, toI_get hl, wi, true_and]
    cases ho : lab ((toI R).getD i 0) with
    | false => exact h2 (any_get hl' (by simp only [olab, ho]; rfl)) _ _
    | true => exact ⟨i + 1, by omega, ⟨hl, by rw [any_take hl', hj]; simp only [olab, ho]; rfl⟩, by rw [joinA_s hl']⟩
  · have e : i = R.length := by omega
    subst e
    simp only [Int.ofNat_lt, Nat.lt_irrefl, decide_false, cond_false, true_and]
    rw [← toI_len R, List.take_length] at hj ⊢
    rw [toI_len R]
    exact h3 hj

theorem chainN_s (l : List Int) (i : Nat) : chainN l (i + 1) = (chainN l i && (i == 0 || und (l.getD (i - 1) 0) (l.getD i 0))) := by
  simp [chainN, List.range_succ]
theorem chainN_le {l : List Int} {i n : Nat} (h : i ≤ n) (hc : chainN l n = true) : chainN l i = true := by
  simp only [chainN, List.all_eq_true, List.mem_range] at hc ⊢
  exact fun j hj => hc j (by omega)
theorem s42_ok {R sp : List (List D)} (hR : okR R = true) (Q : Exit → X → Prop) (x : X) (h : s42 R sp Q x) : XWP Try.prog (.loop (bodyL Try.f42 0)) Q x := by
  obtain ⟨h1, h2, h3⟩ := h
  have hn := okR_len hR
  refine xwp_roundH (ι := Nat) (H := hkA band bor [(65, sUnd)] []) (fn := Try.f42) (i := 0) (ts := [0, 2, 3, 8, 9]) (ks := []) (hkl_ok (.cons o65 .nil)) mixed (loops_nil rfl)
    (fun i => St42 R sp i false 0) (fun i => i ≤ R.length ∧ chainN (toI R) i = true) (fun i => R.length - i) 0 (V42 R sp) (V42 R sp) (fun i hp => ?_) ⟨Nat.zero_le _, rfl⟩ h1
  obtain ⟨hi, hj⟩ := hp
  show roundA band bor Try.prog _ _ Try.f42 0 _ _ _ _ _ _ _
  rw [e42r]
  by_cases hl : i < R.length
  · have wi : IntKind.wrap .i64 ((i : Int) + 1) = ((i + 1 : Nat) : Int) := wrap_id (by omega) (by omega)
    have hl' : i < (toI R).length := by rw [toI_len]; exact hl
    by_cases h0 : i = 0
    · subst h0
      have hz : ((0 : Nat) : Int) < (R.length : Int) := by omega
      have hz2 : ¬ (((0 : Nat) : Int) > 0) := by omega
      simp only [hz, hz2, decide_true, cond_true, true_and, decide_false, cond_false]
      refine ⟨1, by omega, ⟨hl, by rw [chainN_s]; simp [hj]⟩, ?_⟩
      rw [wi]
    · have wj : IntKind.wrap .i64 ((i : Int) - 1) = ((i - 1 : Nat) : Int) := by rw [wrap_id (by omega) (by omega)]; omega
      have hl1 : i - 1 < R.length := by omega
      have hp : (0 : Int) < i := by omega
      simp only [Int.ofNat_lt, hl, hl1, decide_true, cond_true, Int.natCast_nonneg, Bool.and_self, Int.toNat_natCast, List.drop_zero, okR_get hR hl, okR_get hR hl1, toI_get hl, toI_get hl1, wi, wj, true_and, gt_iff_lt, hp]
      cases ho : und ((toI R).getD (i - 1) 0) ((toI R).getD i 0) with
      | false =>
        refine h2 ?_ _
        rw [Bool.eq_false_iff]
        intro hc
        have := chainN_le (i := i + 1) (by omega) hc
        rw [chainN_s, ho, hj] at this
        simp [h0] at this
      | true => exact ⟨i + 1, by omega, ⟨hl, by rw [chainN_s, ho, hj]; simp⟩, rfl⟩
  · have e : i = R.length := by omega
    subst e
    simp only [Int.ofNat_lt, Nat.lt_irrefl, decide_false, cond_false, true_and]
    exact h3 (by rw [toI_len]; exact hj)

theorem s43_ok {R sp : List (List D)} (hR : okR R = true) (Q : Exit → X → Prop) (x : X) (h : s43 R sp Q x) : XWP Try.prog (.loop (bodyL Try.f43 0)) Q x := by
  obtain ⟨h1, h2, h3⟩ := h
  have hn := okR_len hR
  refine xwp_roundH (ι := Nat) (H := hkA band bor [(49, sB lab), (46, sUnd)] []) (fn := Try.f43) (i := 0) (ts := [0, 2, 3, 4, 5]) (ks := []) (hkl_ok (.cons o49 (.cons o46 .nil))) mixed (loops_nil rfl)
    (fun i => St43 R sp i (chainN (toI R) i) false 0) (fun i => i ≤ R.length ∧ ((toI R).take i).any olab = false) (fun i => R.length - i) 0 (V43 R sp) (V43 R sp) (fun i hp => ?_) ⟨Nat.zero_le _, by simp⟩ h1
  obtain ⟨hi, hj⟩ := hp
  show roundA band bor Try.prog _ _ Try.f43 0 _ _ _ _ _ _ _
  rw [e43r]
  by_cases hl : i < R.length
  · have wi : IntKind.wrap .i64 ((i : Int) + 1) = ((i + 1 : Nat) : Int) := wrap_id (by omega) (by omega)
    have hl' : i < (toI R).length := by rw [toI_len]; exact hl
    simp only [Int.ofNat_lt, hl, decide_true, cond_true, Int.natCast_nonneg, Bool.and_self, Int.toNat_natCast, List.drop_zero, okR_get hR hl, toI_get hl, wi, true_and]
    cases ho : lab ((toI R).getD i 0) with
    | false => exact h2 (any_get hl' (by simp only [olab, ho]; rfl)) _ _
    | true =>
      have next : ∀ b, b = chainN (toI R) (i + 1) → ∃ p', R.length - p' < R.length - i ∧ (p' ≤ R.length ∧ ((toI R).take p').any olab = false) ∧ St43 R sp ((i + 1 : Nat) : Int) b false 0 = St43 R sp (p' : Int) (chainN (toI R) p') false 0 := fun b hb =>
        ⟨i + 1, by omega, ⟨hl, by rw [any_take hl', hj]; simp only [olab, ho]; rfl⟩, by rw [hb]⟩
      simp only [Bool.not_true, cond_false]
      cases hc : chainN (toI R) i with
      | false => exact next _ (by rw [chainN_s, hc]; rfl)
      | true =>
        by_cases h0 : i = 0
        · subst h0
          exact next _ (by rw [chainN_s, hc]; rfl)
        · have wj : IntKind.wrap .i64 ((i : Int) - 1) = ((i - 1 : Nat) : Int) := by rw [wrap_id (by omega) (by omega)]; omega
          have hl1 : i - 1 < R.length := by omega
          have hz : ((i : Int) == 0) = false := by simp [h0]
          simp only [hl1, decide_true, cond_true, Int.natCast_nonneg, Bool.and_self, Int.toNat_natCast, List.drop_zero, okR_get hR hl1, toI_get hl1, wj, true_and, hz, cond_false, Int.ofNat_lt]
          exact next _ (by rw [chainN_s, hc]; simp [h0])
  · have e : i = R.length := by omega
    subst e
    simp only [Int.ofNat_lt, Nat.lt_irrefl, decide_false, cond_false, true_and]
    have ht : (toI R).take R.length = toI R := by rw [← toI_len R, List.take_length]
    rw [ht] at hj
    rw [← toI_len R] at h3 ⊢
    exact h3 hj

theorem s66_ok {R sp R' sp' : List (List D)} (hR : okR R = true) (hR' : okR R' = true) (hlen : R.length = R'.length) (Q : Exit → X → Prop) (x : X) (h : s66 R sp R' sp' Q x) : XWP Try.prog (.loop (bodyL Try.f66 0)) Q x := by
  obtain ⟨h1, h2, h3⟩ := h
  have hn := okR_len hR
  refine xwp_roundH (ι := Nat) (H := hkA band bor [] []) (fn := Try.f66) (i := 0) (ts := [0, 1, 4, 5]) (ks := []) (hkl_ok .nil) mixed (loops_nil rfl)
    (fun i => St66 R sp R' sp' i false) (fun i => i ≤ R.length ∧ ∀ j, j < i → (toI R).getD j 0 = (toI R').getD j 0) (fun i => R.length - i) 0 (V66 R sp R' sp') (V66 R sp R' sp') (fun i hp => ?_) ⟨Nat.zero_le _, fun j hj => by omega⟩ h1
  obtain ⟨hi, hj⟩ := hp
  show roundA band bor Try.prog _ _ Try.f66 0 _ _ _ _ _ _ _
  rw [e66r]
  by_cases hl : i < R.length
  · have wi : IntKind.wrap .i64 ((i : Int) + 1) = ((i + 1 : Nat) : Int) := wrap_id (by omega) (by omega)
    have hl' : i < R'.length := by omega
    simp only [Int.ofNat_lt, hl, hl', decide_true, cond_true, Int.natCast_nonneg, Bool.and_self, Int.toNat_natCast, List.drop_zero, okR_get hR hl, okR_get hR' hl', toI_get hl, toI_get hl', wi, true_and]
    by_cases he : (toI R).getD i 0 = (toI R').getD i 0
    · have : ((toI R).getD i 0 != (toI R').getD i 0) = false := by rw [he]; exact bne_self_eq_false _
      rw [this]
      refine ⟨i + 1, by omega, ⟨hl, fun j hji => ?_⟩, rfl⟩
      rcases Nat.lt_succ_iff_lt_or_eq.1 hji with hji | rfl
      · exact hj j hji
      · exact he
    · have : ((toI R).getD i 0 != (toI R').getD i 0) = true := bne_iff_ne.2 he
      rw [this]
      refine h3 (fun e => he (by rw [e])) _
  · have e : i = R.length := by omega
    subst e
    simp only [Int.ofNat_lt, Nat.lt_irrefl, decide_false, cond_false, true_and]
    refine h2 (List.ext_getElem (by rw [toI_len, toI_len, hlen]) fun j hj1 hj2 => ?_)
    have hjl : j < R.length := by rw [toI_len] at hj1; exact hj1
    have hjl' : j < R'.length := by omega
    have := hj j hjl
    simpa [List.getD_eq_getElem?_getD, toI_len, hjl, hjl'] using this
end Vm
