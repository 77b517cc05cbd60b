/- What the functions of this text do, told by an interpreter that is proved right (YtpgkfdehflimcaaVA to VD). My own work. -/
import Derived.Test.YtpgkfdehflimcaaVOrB
namespace Vm
open Go Go.Proofs
set_option linter.unusedSimpArgs false
set_option linter.unusedVariables false
theorem idxF_any (p : Int → Bool) (l : List Int) : decide (idxF p l ≥ 0) = l.any p := by
  unfold idxF
  cases h : l.findIdx? p with
  | some i =>
    have : l.any p = true := by
      rw [List.findIdx?_eq_some_iff_getElem] at h
      obtain ⟨h1, h2, _⟩ := h
      exact List.any_eq_true.2 ⟨_, List.getElem_mem h1, h2⟩
    rw [this]; simp
  | none =>
    have : l.any p = false := by
      rw [List.findIdx?_eq_none_iff] at h
      rw [List.any_eq_false]; intro x hx; simpa using h x hx
    rw [this]; rfl
theorem loops1 {P : Program} {l : List (FuncId × Spec)} {fn : Func} {k : Nat} {s : LSum} (hn : (loopsOf (bodyOf fn)).length = 1) (hk : loopId (bodyL fn 0) = k) (h : ∀ Q x, s Q x → XWP P (.loop (bodyL fn 0)) Q x) : LoopsOK P (hkl l [(k, s)]) (bodyOf fn) :=
  loops_ok 1 hn fun i hi s' hs Q x hq => by
    match i, hi with
    | 0, _ =>
      rw [hk] at hs
      have hs' : some s = some s' := by simpa [lookL, hkl, hkA, beq_self] using hs
      cases hs'
      exact h Q x hq
theorem c69 {R sp : List (List D)} (hR : okR R = true) : CT Try.prog 69 [dR R sp, .c (.f 68 [] [])] (I (idxF olab (toI R))) := by
  refine ct_askL (l := [(68, sB olab)]) (m := [(2, s69 R sp)]) (.cons o68 .nil) mixed (loops1 rfl (by kernel_rfl) (s69_ok hR)) Try.func69 rfl rfl rfl ?_
  · rw [e69]
    refine ⟨rfl, fun i hi => ?_, fun hn => ?_⟩
    · have : (toI R).findIdx? olab = some i := hi
      simp [idxF, this]
    · have : (toI R).findIdx? olab = none := hn
      simp [idxF, this]
theorem o69 : SpecOK Try.prog 69 sIdx := fun ds Q h => by
  unfold sIdx at h; split at h
  · obtain ⟨h1, h2⟩ := cond_P h
    exact ⟨goes_of Try.func69 (by kernel_rfl) rfl, _, c69 h1, rfl, rfl, h2⟩
  · exact h.elim
theorem o67 : SpecOK Try.prog 67 sCon := fun ds Q h => by
  unfold sCon at h; split at h
  · obtain ⟨h1, h2⟩ := cond_P h
    refine ⟨goes_of Try.func67 (by kernel_rfl) rfl, _, ct_ask (.cons o69 .nil) mixed Try.func67 rfl rfl rfl ?_, rfl, rfl, h2⟩
    rw [e67, h1, idxF_any]; rfl
  · exact h.elim
theorem o63' : ∀ R sp, okR R = true → CT Try.prog 63 [dR R sp] (B ((toI R).any olab)) := fun R sp h1 => by
  refine ct_ask (.cons o67 .nil) mixed Try.func63 rfl rfl rfl ?_
  rw [e63, h1]; rfl
theorem o63 {R : List (List D)} {p : Bool} (hR : okR R = true) (hp : (toI R).any olab = p) : SpecOK Try.prog 63 (sOddR R p) := fun ds Q h => by
  unfold sOddR at h; split at h
  · obtain ⟨h1, h2⟩ := h
    subst h1 hp
    exact ⟨goes_of Try.func63 (by kernel_rfl) rfl, _, o63' _ _ hR, rfl, rfl, h2⟩
  · exact h.elim
theorem jn_lab {a b : Int} (h : lab a = true) (h' : lab b = true) : (jn a b).a = bor a b := by simp [jn, h, h']
theorem bor_lab : ∀ a b : Int, lab a = true → lab b = true → lab (bor a b) = true := by
  intro a b ha hb
  rcases lab_cases ha with rfl | rfl | rfl | rfl <;> rcases lab_cases hb with rfl | rfl | rfl | rfl <;> rfl
theorem jnA_join (l : List Int) (h : l.any olab = false) : jnA l = joinA l := by
  have key : ∀ (l : List Int) (a : Int), lab a = true → l.any olab = false → l.foldl (fun a b => (jn a b).a) a = l.foldl bor a := by
    intro l
    induction l with
    | nil => intro a _ _; rfl
    | cons b l ih =>
      intro a ha hl
      simp only [List.any_cons, Bool.or_eq_false_iff] at hl
      have hb : lab b = true := by simpa [olab] using hl.1
      simp only [List.foldl_cons, jn_lab ha hb]
      exact ih _ (bor_lab a b ha hb) hl.2
  exact key l 0 rfl h
theorem c40 {R sp : List (List D)} (hR : okR R = true) : CT Try.prog 40 [dR R sp] (joinI (toI R)).dv := by
  refine ct_askL (l := [(63, sOddR R ((toI R).any olab))]) (m := [(5, s40 R sp)]) (.cons (o63 hR rfl) .nil) mixed (loops1 rfl (by kernel_rfl) (s40_ok hR)) Try.func40 rfl rfl rfl ?_
  rw [e40]
  cases h : (toI R).any olab with
  | true => simp [joinI, h]
  | false => simp [joinI, h, jnA_join]
theorem c41 {R sp : List (List D)} (hR : okR R = true) : CT Try.prog 41 [dR R sp] (joinI (toI R)).dv := by
  refine ct_askL (l := []) (m := [(3, s41 R sp)]) .nil mixed (loops1 rfl (by kernel_rfl) (s41_ok hR)) Try.func41 rfl rfl rfl ?_
  rw [e41]
  cases h : (toI R).any olab with
  | true => simp [joinI, h]
  | false => simp [joinI, h]
theorem c42 {R sp : List (List D)} (hR : okR R = true) : CT Try.prog 42 [dR R sp] (chainI (toI R)).dv := by
  refine ct_askL (l := [(63, sOddR R ((toI R).any olab))]) (m := [(4, s42 R sp)]) (.cons (o63 hR rfl) .nil) mixed (loops1 rfl (by kernel_rfl) (s42_ok hR)) Try.func42 rfl rfl rfl ?_
  rw [e42]
  cases h : (toI R).any olab with
  | true => simp [chainI, h]
  | false =>
    cases hc : chainN (toI R) (toI R).length <;> simp [chainI, h, hc]
theorem c43 {R sp : List (List D)} (hR : okR R = true) : CT Try.prog 43 [dR R sp] (chainI (toI R)).dv := by
  refine ct_askL (l := []) (m := [(3, s43 R sp)]) .nil mixed (loops1 rfl (by kernel_rfl) (s43_ok hR)) Try.func43 rfl rfl rfl ?_
  rw [e43]
  cases h : (toI R).any olab with
  | true => simp [chainI, h]
  | false => simp [chainI, h]
theorem c66 {R sp R' sp' : List (List D)} (hR : okR R = true) (hR' : okR R' = true) : CT Try.prog 66 [dR R sp, dR R' sp'] (B (decide (toI R = toI R'))) := by
  by_cases hlen : R.length = R'.length
  · refine ct_askL (l := []) (m := [(4, s66 R sp R' sp')]) .nil mixed (loops1 rfl (by kernel_rfl) (s66_ok hR hR' hlen)) Try.func66 rfl rfl rfl ?_
    rw [e66]
    have : ((R.length : Int) != (R'.length : Int)) = false := by simp [hlen]
    rw [this]
    by_cases he : toI R = toI R'
    · simp [he]
    · simp [he]
  · refine ct_askL (l := []) (m := [(4, fun _ _ => False)]) .nil mixed (loops1 rfl (by kernel_rfl) (fun _ _ h => h.elim)) Try.func66 rfl rfl rfl ?_
    rw [e66']
    have : ((R.length : Int) != (R'.length : Int)) = true := by simp; omega
    rw [this]
    have : toI R ≠ toI R' := fun e => hlen (by rw [← toI_len R, e, toI_len])
    simp [this]
def sJoin : Spec := fun ds Q => match ds with | [.c (.s 0 1 R sp)] => cond (okR R) (Q (joinI (toI R)).dv) False | _ => False
def sChain : Spec := fun ds Q => match ds with | [.c (.s 0 1 R sp)] => cond (okR R) (Q (chainI (toI R)).dv) False | _ => False
theorem oJoin {f : FuncId} {fn : Func} (hf : Try.prog.funcs[f]? = some fn) (hn : (fn.name == "runtime.NumGoroutine") = false) (hb : fn.body.isNone = false) (hc : ∀ R sp, okR R = true → CT Try.prog f [dR R sp] (joinI (toI R)).dv) : SpecOK Try.prog f sJoin := fun ds Q h => by
  unfold sJoin at h; split at h
  · obtain ⟨h1, h2⟩ := cond_P h
    exact ⟨goes_of hf hn hb, _, hc _ _ h1, rfl, rfl, h2⟩
  · exact h.elim
theorem oChain {f : FuncId} {fn : Func} (hf : Try.prog.funcs[f]? = some fn) (hn : (fn.name == "runtime.NumGoroutine") = false) (hb : fn.body.isNone = false) (hc : ∀ R sp, okR R = true → CT Try.prog f [dR R sp] (chainI (toI R)).dv) : SpecOK Try.prog f sChain := fun ds Q h => by
  unfold sChain at h; split at h
  · obtain ⟨h1, h2⟩ := cond_P h
    exact ⟨goes_of hf hn hb, _, hc _ _ h1, rfl, rfl, h2⟩
  · exact h.elim
theorem o40 : SpecOK Try.prog 40 sJoin := oJoin Try.func40 (by kernel_rfl) rfl fun _ _ => c40
theorem o41 : SpecOK Try.prog 41 sJoin := oJoin Try.func41 (by kernel_rfl) rfl fun _ _ => c41
theorem o42 : SpecOK Try.prog 42 sChain := oChain Try.func42 (by kernel_rfl) rfl fun _ _ => c42
theorem o43 : SpecOK Try.prog 43 sChain := oChain Try.func43 (by kernel_rfl) rfl fun _ _ => c43
theorem o66 : SpecOK Try.prog 66 sSame := fun ds Q h => by
  unfold sSame at h; split at h
  · obtain ⟨h1, h2⟩ := cond_P h
    simp only [Bool.and_eq_true] at h1
    exact ⟨goes_of Try.func66 (by kernel_rfl) rfl, _, c66 h1.1 h1.2, rfl, rfl, h2⟩
  · exact h.elim
theorem keeps_of {R : List (List D)} (h : allV R = true) : (R.all fun r => r.all D.keeps) = true := by
  unfold allV at h
  simp only [List.all_eq_true] at h ⊢
  intro r hr d hd
  have := h r hr d hd
  cases d <;> simp [D.isV] at this
  rfl
theorem allV_of {R : List (List D)} (h : okR R = true) : allV R = true := by
  simp only [okR, Bool.and_eq_true] at h
  unfold allV
  have h1 := h.1
  simp only [List.all_eq_true, Bool.and_eq_true] at h1 ⊢
  exact fun r hr d hd => (h1 r hr).2 d hd
theorem ownLL_of {R : List (List D)} (h : allV R = true) : ownLL R = true := by
  have hL : ∀ r : List D, r.all D.isV = true → ownL r = true := fun r => by
    induction r with
    | nil => intro _; rfl
    | cons d r ih =>
      intro hr
      simp only [List.all_cons, Bool.and_eq_true] at hr
      simp only [ownL, Bool.and_eq_true]
      refine ⟨?_, ih hr.2⟩
      cases d <;> simp [D.isV] at hr
      rfl
  induction R with
  | nil => rfl
  | cons r R ih =>
    simp only [allV, List.all_cons, Bool.and_eq_true] at h
    simp only [ownLL, Bool.and_eq_true]
    exact ⟨hL r h.1, ih h.2⟩
theorem c62 {R sp : List (List D)} (hR : allV R = true) (hl : R.length ≤ 17592186044000) : CT Try.prog 62 [dR R sp] (.c (.s 1 1 R [])) := by
  refine ct_ask .nil mixed Try.func62 rfl rfl rfl ?_
  rw [e62]
  have h1 : decide ((0 + R.length) * 8 ≤ 140737488355328) = true := decide_eq_true (by omega)
  have h2 : decide (0 + R.length ≤ 9223372036854775807) = true := decide_eq_true (by omega)
  simp [hR, keeps_of hR]
  exact ⟨by omega, by omega⟩
theorem o62 : SpecOK Try.prog 62 sCopy := fun ds Q h => by
  unfold sCopy at h; split at h
  · obtain ⟨h1, h2⟩ := cond_P h
    simp only [Bool.and_eq_true, decide_eq_true_eq] at h1
    exact ⟨goes_of Try.func62 (by kernel_rfl) rfl, _, c62 h1.1 h1.2, by simp [DV.pureOwn, DV.pure1, D.pureOwn, ownLL_of h1.1]; rfl, rfl, h2⟩
  · exact h.elim
end Vm
