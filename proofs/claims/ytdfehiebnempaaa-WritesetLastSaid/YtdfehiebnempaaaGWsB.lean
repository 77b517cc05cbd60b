/- What the functions of this text do, told by an interpreter that is proved right (YtdfehiebnempaaaGA to GD). My own work. -/
import Derived.Test.YtdfehiebnempaaaGWsA
namespace Vm
open Go Go.Proofs
set_option linter.unusedSimpArgs false
set_option linter.unusedVariables false
set_option maxRecDepth 100000
/-! ### writes: May -/
def okw (r : List Int) : Bool := bif lab (r.getD 0 0) then bif ix4 (r.getD 1 0) then val8 (r.getD 2 0) else false else false
def badW (l : List (List Int)) (i : Nat) : Bool := !okw (l.getD i []) || (decide (0 < i) && decide (rw3 (l.getD (i - 1) []) ((l.getD i []).getD 0 0) ((l.getD i []).getD 1 0) ≥ 0))
def wmay (l : List (List Int)) : Bool := decide (l.length ≤ 16) && !(List.range l.length).any (badW l)
def stWM (R sp : List (List D)) (v : Bool) (i : Int) : X := ⟨mkT 46 [(0, aS 3 R sp), (2, ab v), (5, aS 3 R sp), (6, ai R.length), (7, ai i)], [], []⟩
def vWM (R sp : List (List D)) : Vw := fun y K => wB y 2 fun v => wI y 7 fun i => K (stWM R sp v i)
theorem vWM_ok (R sp : List (List D)) : VwOK (vWM R sp) := fun y K h => by
  unfold vWM at h
  obtain ⟨v, h⟩ := wB_ex h
  obtain ⟨i, h⟩ := wI_ex h
  exact ⟨_, h⟩
theorem rWM (R sp : List (List D)) (v : Bool) (i : Int) (N : X → Prop) (E : Exit → X → Prop) : (roundW Try.prog (hkA band bor [(77, sB lab), (78, sB ix4), (90, sB val8), (85, sRow)] []) Try.f53 0 [] [0, 2, 5, 6, 7] [] (vWM R sp) (vWM R sp) N E (stWM R sp v i)) = (bif decide (i < @Nat.cast Int _ (List.length R)) then bif decide (0 ≤ i) && decide (i < @Nat.cast Int _ (List.length R)) then bif isJ [IntKind.i64, IntKind.i64, IntKind.i64] (List.drop (0) (List.getD R (Int.toNat i) [])) then bif !lab (hdJ (List.drop (0) (List.getD R (Int.toNat i) []))) then stWM R sp false i = stWM R sp false i ∧ E Exit.ret (stWM R sp false i) else bif !ix4 (hdJ (List.tail (List.drop (0) (List.getD R (Int.toNat i) [])))) then stWM R sp false i = stWM R sp false i ∧ E Exit.ret (stWM R sp false i) else bif !val8 (hdJ (List.tail (List.tail (List.drop (0) (List.getD R (Int.toNat i) []))))) then stWM R sp false i = stWM R sp false i ∧ E Exit.ret (stWM R sp false i) else bif decide (i > 0) then bif decide (0 ≤ IntKind.wrap IntKind.i64 (i - 1)) && decide (IntKind.wrap IntKind.i64 (i - 1) < @Nat.cast Int _ (List.length R)) then bif isJ [IntKind.i64, IntKind.i64, IntKind.i64] (List.drop (0) (List.getD R (Int.toNat (IntKind.wrap IntKind.i64 (i - 1))) [])) then bif decide (rw3 [hdJ (List.drop (0) (List.getD R (Int.toNat (IntKind.wrap IntKind.i64 (i - 1))) [])), hdJ (List.tail (List.drop (0) (List.getD R (Int.toNat (IntKind.wrap IntKind.i64 (i - 1))) []))), hdJ (List.tail (List.tail (List.drop (0) (List.getD R (Int.toNat (IntKind.wrap IntKind.i64 (i - 1))) []))))] (hdJ (List.drop (0) (List.getD R (Int.toNat i) []))) (hdJ (List.tail (List.drop (0) (List.getD R (Int.toNat i) [])))) ≥ 0) then stWM R sp false i = stWM R sp false i ∧ E Exit.ret (stWM R sp false i) else stWM R sp v (IntKind.wrap IntKind.i64 (i + 1)) = stWM R sp v (IntKind.wrap IntKind.i64 (i + 1)) ∧ N (stWM R sp v (IntKind.wrap IntKind.i64 (i + 1))) else False else False else stWM R sp v (IntKind.wrap IntKind.i64 (i + 1)) = stWM R sp v (IntKind.wrap IntKind.i64 (i + 1)) ∧ N (stWM R sp v (IntKind.wrap IntKind.i64 (i + 1))) else False else False else stWM R sp v i = stWM R sp v i ∧ E (Exit.exit (0)) (stWM R sp v i)) := by kernel_rfl
def stWP (R sp : List (List D)) (v : Bool) (i : Int) : X := ⟨mkT 65 [(0, aS 3 R sp), (2, ab v), (3, ai i)], [], []⟩
def vWP (R sp : List (List D)) : Vw := fun y K => wB y 2 fun v => wI y 3 fun i => K (stWP R sp v i)
theorem vWP_ok (R sp : List (List D)) : VwOK (vWP R sp) := fun y K h => by
  unfold vWP at h
  obtain ⟨v, h⟩ := wB_ex h
  obtain ⟨i, h⟩ := wI_ex h
  exact ⟨_, h⟩
theorem rWP (R sp : List (List D)) (v : Bool) (i : Int) (N : X → Prop) (E : Exit → X → Prop) : (roundW Try.prog (hkA band bor [(80, sWN), (58, sB val8), (87, sPl)] []) Try.f54 0 [] [0, 2, 3] [] (vWP R sp) (vWP R sp) N E (stWP R sp v i)) = (bif decide (i < @Nat.cast Int _ (List.length R)) then bif decide (0 ≤ i) && decide (i < @Nat.cast Int _ (List.length R)) then bif isJ [IntKind.i64] (List.drop (0) (List.getD R (Int.toNat i) [])) then bif decide (0 ≤ i) && decide (i < @Nat.cast Int _ (List.length R)) then bif isJ [IntKind.i64] (List.drop (1) (List.getD R (Int.toNat i) [])) then bif !wnm (hdJ (List.drop (0) (List.getD R (Int.toNat i) []))) (hdJ (List.drop (1) (List.getD R (Int.toNat i) []))) then stWP R sp false i = stWP R sp false i ∧ E Exit.ret (stWP R sp false i) else bif decide (0 ≤ i) && decide (i < @Nat.cast Int _ (List.length R)) then bif isJ [IntKind.i64] (List.drop (2) (List.getD R (Int.toNat i) [])) then bif !val8 (hdJ (List.drop (2) (List.getD R (Int.toNat i) []))) then stWP R sp false i = stWP R sp false i ∧ E Exit.ret (stWP R sp false i) else bif decide (i > 0) then bif decide (0 ≤ i) && decide (i < @Nat.cast Int _ (List.length R)) then bif isJ [IntKind.i64] (List.drop (0) (List.getD R (Int.toNat i) [])) then bif decide (0 ≤ i) && decide (i < @Nat.cast Int _ (List.length R)) then bif isJ [IntKind.i64] (List.drop (1) (List.getD R (Int.toNat i) [])) then bif decide (0 ≤ IntKind.wrap IntKind.i64 (i - 1)) && decide (IntKind.wrap IntKind.i64 (i - 1) < @Nat.cast Int _ (List.length R)) then bif isJ [IntKind.i64] (List.drop (0) (List.getD R (Int.toNat (IntKind.wrap IntKind.i64 (i - 1))) [])) then bif decide (0 ≤ IntKind.wrap IntKind.i64 (i - 1)) && decide (IntKind.wrap IntKind.i64 (i - 1) < @Nat.cast Int _ (List.length R)) then bif isJ [IntKind.i64] (List.drop (1) (List.getD R (Int.toNat (IntKind.wrap IntKind.i64 (i - 1))) [])) then bif decide (plc (hdJ (List.drop (0) (List.getD R (Int.toNat i) []))) (hdJ (List.drop (1) (List.getD R (Int.toNat i) []))) ≤ plc (hdJ (List.drop (0) (List.getD R (Int.toNat (IntKind.wrap IntKind.i64 (i - 1))) []))) (hdJ (List.drop (1) (List.getD R (Int.toNat (IntKind.wrap IntKind.i64 (i - 1))) [])))) then stWP R sp false i = stWP R sp false i ∧ E Exit.ret (stWP R sp false i) else stWP R sp v (IntKind.wrap IntKind.i64 (i + 1)) = stWP R sp v (IntKind.wrap IntKind.i64 (i + 1)) ∧ N (stWP R sp v (IntKind.wrap IntKind.i64 (i + 1))) else False else False else False else False else False else False else False else False else stWP R sp v (IntKind.wrap IntKind.i64 (i + 1)) = stWP R sp v (IntKind.wrap IntKind.i64 (i + 1)) ∧ N (stWP R sp v (IntKind.wrap IntKind.i64 (i + 1))) else False else False else False else False else False else False else stWP R sp v i = stWP R sp v i ∧ E (Exit.exit (0)) (stWP R sp v i)) := by kernel_rfl
theorem wrap_pred {m : Nat} (h : m + 1 ≤ 9223372036854775807) : IntKind.wrap .i64 (((m + 1 : Nat) : Int) - 1) = ((m : Nat) : Int) := by rw [IntKind.wrap_i64]; omega
def fWM (l : List (List Int)) (sp : List (List D)) : LSum := findS [0, 2, 5, 6, 7] [] (fun i => stWM (mZ l) sp false i) (fun i => stWM (mZ l) sp false i) l.length (badW l) .ret (.exit 0)
theorem kWM {l : List (List Int)} {sp : List (List D)} (hw : wid 3 l) (hn : l.length ≤ 9223372036854775807) (Q : Exit → X → Prop) (x : X) (h : fWM l sp Q x) : XWP Try.prog (.loop (bodyL Try.f53 0)) Q x := by
  refine xwp_find (H := hkA band bor [(77, sB lab), (78, sB ix4), (90, sB val8), (85, sRow)] []) (sw := []) (V := vWM (mZ l) sp) (VE := vWM (mZ l) sp) (hkl_ok (.cons oLab (.cons oIdx (.cons oVal (.cons oRow .nil))))) mixed (loops_nil rfl) (vWM_ok (mZ l) sp) (vWM_ok (mZ l) sp) _ _ _ _ _ _ (fun i hl N E h1 h2 => ?_) (fun N E h1 => ?_) Q x h
  · rw [rWM]
    have wi : IntKind.wrap .i64 ((i : Int) + 1) = ((i + 1 : Nat) : Int) := wrap_nat (n := 1) (by omega)
    have hj1 : isJ [IntKind.i64, IntKind.i64, IntKind.i64] ((mZ l).getD i []) = true := isJ_mZ (j := 0) (n := 3) hw hl (by omega)
    have hz : decide (((i : Nat) : Int) > 0) = decide (0 < i) := by by_cases h : 0 < i <;> simp [h]
    simp only [mZ_len, Int.ofNat_lt, hl, decide_true, cond_true, Int.natCast_nonneg, Bool.and_self, Int.toNat_natCast, hdJ_mZt1, hdJ_mZt2, hj1, List.drop_zero, hdJ_mZ0, true_and, wi, hz]
    unfold badW okw at h1 h2
    revert h1 h2
    generalize lab ((l.getD i []).getD 0 0) = p1
    generalize ix4 ((l.getD i []).getD 1 0) = p2
    generalize val8 ((l.getD i []).getD 2 0) = p3
    intro h1 h2
    cases p1
    · exact h1 rfl
    cases p2
    · exact h1 rfl
    cases p3
    · exact h1 rfl
    by_cases h0 : 0 < i
    · obtain ⟨m, rfl⟩ : ∃ m, i = m + 1 := ⟨i - 1, by omega⟩
      have hlm : m < l.length := by omega
      have hj2 : isJ [IntKind.i64, IntKind.i64, IntKind.i64] ((mZ l).getD m []) = true := isJ_mZ (j := 0) (n := 3) hw hlm (by omega)
      have wp := wrap_pred (m := m) (by omega)
      have hr : rw3 [(l.getD m []).getD 0 0, (l.getD m []).getD 1 0, (l.getD m []).getD 2 0] ((l.getD (m + 1) []).getD 0 0) ((l.getD (m + 1) []).getD 1 0) = rw3 (l.getD m []) ((l.getD (m + 1) []).getD 0 0) ((l.getD (m + 1) []).getD 1 0) := rfl
      simp only [h0, decide_true, cond_true, wp, Int.ofNat_lt, hlm, Int.natCast_nonneg, Bool.and_self, Int.toNat_natCast, hj2, hdJ_mZ0, hdJ_mZt1, hdJ_mZt2, hr, Nat.add_sub_cancel, Bool.not_true, Bool.true_and, Bool.false_or, cond_false] at h1 h2 ⊢
      cases hd : decide (rw3 (l.getD m []) ((l.getD (m + 1) []).getD 0 0) ((l.getD (m + 1) []).getD 1 0) ≥ 0) with
      | true => rw [hd] at h1; exact h1 rfl
      | false => rw [hd] at h2; exact h2 rfl
    · simp only [h0, decide_false, Bool.false_and, Bool.or_false, cond_true, Bool.not_true, cond_false] at h1 h2 ⊢
      exact h2 trivial
  · rw [rWM]
    simp only [mZ_len, Int.ofNat_lt, Nat.lt_irrefl, decide_false, cond_false, true_and]
    exact h1
theorem eWM (l : List (List Int)) (sp : List (List D)) (K : DV → Prop) : (askL Try.prog [] [(2, fWM l sp)] Try.f53 [dS 3 (mZ l) sp] K) = (stWM (mZ l) sp false (0) = stWM (mZ l) sp false (0) ∧ (∀ (i : Nat), firstAt (badW l) (List.length l) i → K (DV.c (D.v (Value.bool false)))) ∧ (noneTo (badW l) (List.length l) → K (DV.c (D.v (Value.bool (decide (@Nat.cast Int _ (List.length (mZ l)) ≤ 16))))))) := by kernel_rfl
def sWMy : Spec := fun ds Q => match ds with | [.c (.s 0 3 R sp)] => cond (okZ 3 R) (Q (B (wmay (toZ R)))) False | _ => False
theorem oWMy : SpecOK Try.prog 53 sWMy := o_of Try.func53 (by kernel_rfl) rfl fun ds Q h => by
  unfold sWMy at h; split at h
  · rename_i R sp
    obtain ⟨h1, h2⟩ := cond_P h
    obtain ⟨e1, w1, n1⟩ := okZ_spec h1
    rw [e1]
    rw [← toZ_len R] at n1
    generalize toZ R = l at *
    refine ⟨_, ct_askL (l := []) (m := [(2, fWM l sp)]) .nil mixed (loops1 rfl (by kernel_rfl) (kWM w1 n1)) Try.func53 rfl rfl rfl ?_, rfl, rfl, h2⟩
    rw [eWM]
    refine ⟨rfl, fun i hi => ?_, fun hn => ?_⟩
    · unfold wmay; rw [hi.b]; simp
    · unfold wmay; rw [hn.b]
      by_cases h : l.length ≤ 16 <;> simp [mZ_len, h] <;> omega
  · exact h.elim
/-! ### .. as the reference says it -/
def key (r : List Int) : Int := 4 * r.getD 0 0 + r.getD 1 0
def badP (l : List (List Int)) (i : Nat) : Bool := !okw (l.getD i []) || (decide (0 < i) && decide (plc ((l.getD i []).getD 0 0) ((l.getD i []).getD 1 0) ≤ plc ((l.getD (i - 1) []).getD 0 0) ((l.getD (i - 1) []).getD 1 0)))
def inW (r : List Int) : Prop := (0 ≤ r.getD 0 0 ∧ r.getD 0 0 ≤ 3) ∧ (0 ≤ r.getD 1 0 ∧ r.getD 1 0 ≤ 3)
theorem upto_spec {x a b : Int} : upto x a b = true ↔ a ≤ x ∧ x ≤ b := by unfold upto; simp
theorem okw_in {r : List Int} (h : okw r = true) : inW r ∧ 0 ≤ r.getD 2 0 ∧ r.getD 2 0 ≤ 255 := by
  unfold okw at h
  cases h1 : lab (r.getD 0 0) with
  | false => rw [h1] at h; cases h
  | true =>
    cases h2 : ix4 (r.getD 1 0) with
    | false => rw [h1, h2] at h; cases h
    | true => rw [h1, h2] at h; exact ⟨⟨upto_spec.1 h1, upto_spec.1 h2⟩, upto_spec.1 h⟩
theorem wrap_small {x : Int} (h : -9223372036854775808 ≤ x ∧ x ≤ 9223372036854775807) : IntKind.wrap .i64 x = x := by rw [IntKind.wrap_i64]; omega
theorem plc_key {r : List Int} (h : inW r) : plc (r.getD 0 0) (r.getD 1 0) = key r := by
  obtain ⟨⟨h1, h2⟩, h3, h4⟩ := h
  unfold plc key
  rw [wrap_small (x := 4 * r.getD 0 0) (by omega), wrap_small (by omega)]
theorem rw3_key {r : List Int} {a b : Int} (h : inW r) (ha : 0 ≤ a ∧ a ≤ 3) (hb : 0 ≤ b ∧ b ≤ 3) : (rw3 r a b < 0 ↔ key r < 4 * a + b) ∧ (rw3 r a b = 0 ↔ key r = 4 * a + b) := by
  obtain ⟨⟨h1, h2⟩, h3, h4⟩ := h
  unfold rw3 ior key
  rw [wrap_small (x := r.getD 0 0 - a) (by omega), wrap_small (x := r.getD 1 0 - b) (by omega)]
  generalize r.getD 0 0 = x at *
  generalize r.getD 1 0 = y at *
  cases hx : (x - a != 0) with
  | true => have hx : x - a ≠ 0 := by simpa using hx
            simp only [cond_true]; constructor <;> constructor <;> intro h <;> omega
  | false => have hx : x - a = 0 := by simpa using hx
             simp only [cond_false]; constructor <;> constructor <;> intro h <;> omega
def okWs (l : List (List Int)) : Prop := ∀ i, i < l.length → okw (l.getD i []) = true ∧ (0 < i → key (l.getD (i - 1) []) < key (l.getD i []))
theorem anyW_iff (l : List (List Int)) : (List.range l.length).any (badW l) = false ↔ okWs l := by
  rw [List.any_eq_false]
  constructor
  · intro h i hi
    have hb := h i (by simpa using hi)
    have hok : okw (l.getD i []) = true := by
      unfold badW at hb
      cases hx : okw (l.getD i []) with
      | true => rfl
      | false => rw [hx] at hb; simp at hb
    refine ⟨hok, fun h0 => ?_⟩
    have hb1 := h (i - 1) (by simp; omega)
    have hok1 : okw (l.getD (i - 1) []) = true := by
      unfold badW at hb1
      cases hx : okw (l.getD (i - 1) []) with
      | true => rfl
      | false => rw [hx] at hb1; simp at hb1
    unfold badW at hb
    rw [hok] at hb
    have hr := (okw_in hok).1
    have := (rw3_key (okw_in hok1).1 hr.1 hr.2).1
    simp only [h0, decide_true, Bool.not_true, Bool.false_or, Bool.true_and, decide_eq_true_eq] at hb
    have := this.1 (by omega)
    unfold key at this ⊢
    omega
  · intro h i hi
    obtain ⟨h1, h2⟩ := h i (by simpa using hi)
    unfold badW
    rw [h1]
    by_cases h0 : 0 < i
    · have hi' : i < l.length := by simpa using hi
      have hok1 := (h (i - 1) (by omega)).1
      have hr := (okw_in h1).1
      have := (rw3_key (okw_in hok1).1 hr.1 hr.2).1
      have := this.2 (by have := h2 h0; unfold key at this ⊢; omega)
      simp only [h0, decide_true, Bool.not_true, Bool.false_or, Bool.true_and, decide_eq_true_eq]; omega
    · simp only [h0, decide_false, Bool.not_true, Bool.false_or, Bool.false_and]; simp
theorem anyP_iff (l : List (List Int)) : (List.range l.length).any (badP l) = false ↔ okWs l := by
  rw [List.any_eq_false]
  constructor
  · intro h i hi
    have hb := h i (by simpa using hi)
    have hok : okw (l.getD i []) = true := by
      unfold badP at hb
      cases hx : okw (l.getD i []) with
      | true => rfl
      | false => rw [hx] at hb; simp at hb
    refine ⟨hok, fun h0 => ?_⟩
    have hb1 := h (i - 1) (by simp; omega)
    have hok1 : okw (l.getD (i - 1) []) = true := by
      unfold badP at hb1
      cases hx : okw (l.getD (i - 1) []) with
      | true => rfl
      | false => rw [hx] at hb1; simp at hb1
    unfold badP at hb
    rw [hok, plc_key (okw_in hok).1, plc_key (okw_in hok1).1] at hb
    simp only [h0, decide_true, Bool.not_true, Bool.false_or, Bool.true_and, decide_eq_true_eq] at hb
    omega
  · intro h i hi
    obtain ⟨h1, h2⟩ := h i (by simpa using hi)
    unfold badP
    rw [h1]
    by_cases h0 : 0 < i
    · have hi' : i < l.length := by simpa using hi
      have hok1 := (h (i - 1) (by omega)).1
      rw [plc_key (okw_in h1).1, plc_key (okw_in hok1).1]
      have := h2 h0
      simp only [h0, decide_true, Bool.not_true, Bool.false_or, Bool.true_and, decide_eq_true_eq]; omega
    · simp only [h0, decide_false, Bool.not_true, Bool.false_or, Bool.false_and]; simp
theorem anyPW (l : List (List Int)) : (List.range l.length).any (badP l) = (List.range l.length).any (badW l) := by
  have h1 := anyP_iff l
  have h2 := anyW_iff l
  cases hp : (List.range l.length).any (badP l) with
  | false => rw [h2.2 (h1.1 hp)]
  | true =>
    cases hw : (List.range l.length).any (badW l) with
    | true => rfl
    | false => rw [h1.2 (h2.1 hw)] at hp; cases hp
theorem wmay_iff (l : List (List Int)) : wmay l = true ↔ l.length ≤ 16 ∧ okWs l := by
  unfold wmay
  simp only [Bool.and_eq_true, decide_eq_true_eq, Bool.not_eq_true', anyW_iff]
def fWP (l : List (List Int)) (sp : List (List D)) : LSum := findS [0, 2, 3] [] (fun i => stWP (mZ l) sp false i) (fun i => stWP (mZ l) sp false i) l.length (badP l) .ret (.exit 0)
theorem kWP {l : List (List Int)} {sp : List (List D)} (hw : wid 3 l) (hn : l.length ≤ 9223372036854775807) (Q : Exit → X → Prop) (x : X) (h : fWP l sp Q x) : XWP Try.prog (.loop (bodyL Try.f54 0)) Q x := by
  refine xwp_find (H := hkA band bor [(80, sWN), (58, sB val8), (87, sPl)] []) (sw := []) (V := vWP (mZ l) sp) (VE := vWP (mZ l) sp) (hkl_ok (.cons oWN (.cons oRVal (.cons oPl .nil)))) mixed (loops_nil rfl) (vWP_ok (mZ l) sp) (vWP_ok (mZ l) sp) _ _ _ _ _ _ (fun i hl N E h1 h2 => ?_) (fun N E h1 => ?_) Q x h
  · rw [rWP]
    have wi : IntKind.wrap .i64 ((i : Int) + 1) = ((i + 1 : Nat) : Int) := wrap_nat (n := 1) (by omega)
    have hj0 : isJ [IntKind.i64] (((mZ l).getD i [])) = true := isJ_mZ1 (j := 0) hw hl (by omega)
    have hj1 : isJ [IntKind.i64] (((mZ l).getD i []).drop 1) = true := isJ_mZ1 (j := 1) hw hl (by omega)
    have hj2 : isJ [IntKind.i64] (((mZ l).getD i []).drop 2) = true := isJ_mZ1 (j := 2) hw hl (by omega)
    have hz : decide (((i : Nat) : Int) > 0) = decide (0 < i) := by by_cases h : 0 < i <;> simp [h]
    simp only [mZ_len, Int.ofNat_lt, hl, decide_true, cond_true, Int.natCast_nonneg, Bool.and_self, Int.toNat_natCast, hj0, hj1, hj2, List.drop_zero, hdJ_mZ0, hdJ_mZ, true_and, wi, hz]
    unfold badP okw at h1 h2
    unfold wnm
    revert h1 h2
    generalize lab ((l.getD i []).getD 0 0) = p1
    generalize ix4 ((l.getD i []).getD 1 0) = p2
    generalize val8 ((l.getD i []).getD 2 0) = p3
    intro h1 h2
    cases p1
    · exact h1 rfl
    cases p2
    · exact h1 rfl
    cases p3
    · exact h1 rfl
    by_cases h0 : 0 < i
    · obtain ⟨m, rfl⟩ : ∃ m, i = m + 1 := ⟨i - 1, by omega⟩
      have hlm : m < l.length := by omega
      have hk0 : isJ [IntKind.i64] (((mZ l).getD m [])) = true := isJ_mZ1 (j := 0) hw hlm (by omega)
      have hk1 : isJ [IntKind.i64] (((mZ l).getD m []).drop 1) = true := isJ_mZ1 (j := 1) hw hlm (by omega)
      have wp := wrap_pred (m := m) (by omega)
      simp only [h0, decide_true, cond_true, wp, Int.ofNat_lt, hlm, Int.natCast_nonneg, Bool.and_self, Int.toNat_natCast, hk0, hk1, hdJ_mZ0, hdJ_mZ, Nat.add_sub_cancel, Bool.not_true, Bool.true_and, Bool.false_or, cond_false] at h1 h2 ⊢
      cases hd : decide (plc ((l.getD (m + 1) []).getD 0 0) ((l.getD (m + 1) []).getD 1 0) ≤ plc ((l.getD m []).getD 0 0) ((l.getD m []).getD 1 0)) with
      | true => rw [hd] at h1; exact h1 rfl
      | false => rw [hd] at h2; exact h2 rfl
    · simp only [h0, decide_false, Bool.false_and, Bool.or_false, cond_true, Bool.not_true, cond_false] at h1 h2 ⊢
      exact h2 trivial
  · rw [rWP]
    simp only [mZ_len, Int.ofNat_lt, Nat.lt_irrefl, decide_false, cond_false, true_and]
    exact h1
theorem eWP (l : List (List Int)) (sp : List (List D)) (K : DV → Prop) : (askL Try.prog [] [(2, fWP l sp)] Try.f54 [dS 3 (mZ l) sp] K) = (stWP (mZ l) sp false (0) = stWP (mZ l) sp false (0) ∧ (∀ (i : Nat), firstAt (badP l) (List.length l) i → K (DV.c (D.v (Value.bool false)))) ∧ (noneTo (badP l) (List.length l) → K (DV.c (D.v (Value.bool (decide (@Nat.cast Int _ (List.length (mZ l)) ≤ 16))))))) := by kernel_rfl
theorem oWPy : SpecOK Try.prog 54 sWMy := o_of Try.func54 (by kernel_rfl) rfl fun ds Q h => by
  unfold sWMy at h; split at h
  · rename_i R sp
    obtain ⟨h1, h2⟩ := cond_P h
    obtain ⟨e1, w1, n1⟩ := okZ_spec h1
    rw [e1]
    rw [← toZ_len R] at n1
    generalize toZ R = l at *
    refine ⟨_, ct_askL (l := []) (m := [(2, fWP l sp)]) .nil mixed (loops1 rfl (by kernel_rfl) (kWP w1 n1)) Try.func54 rfl rfl rfl ?_, rfl, rfl, h2⟩
    rw [eWP]
    refine ⟨rfl, fun i hi => ?_, fun hn => ?_⟩
    · unfold wmay; rw [← anyPW, hi.b]; simp
    · unfold wmay; rw [← anyPW, hn.b]
      by_cases h : l.length ≤ 16 <;> simp [mZ_len, h] <;> omega
  · exact h.elim
end Vm
