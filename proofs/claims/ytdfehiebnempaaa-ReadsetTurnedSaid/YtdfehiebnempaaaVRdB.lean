/- What the functions of this text do, told by an interpreter that is proved right (YtdfehiebnempaaaVA to VD). My own work. -/
import Derived.Test.YtdfehiebnempaaaVRdA
namespace Vm
open Go Go.Proofs
set_option linter.unusedSimpArgs false
set_option linter.unusedVariables false
set_option maxRecDepth 100000
/-! ### reads: May -/
def badR (l : List (List Int)) (i : Nat) : Bool := !ok1 ((l.getD i []).getD 0 0) ((l.getD i []).getD 1 0) ((l.getD i []).getD 2 0) || (l.take i).any (sameW ((l.getD i []).getD 0 0) ((l.getD i []).getD 1 0) ((l.getD i []).getD 2 0))
def rmay (l : List (List Int)) : Bool := decide (l.length ≤ 16) && !(List.range l.length).any (badR l)
theorem cut_take (R sp : List (List D)) {i : Nat} (hi : i ≤ R.length) : cut (R ++ sp) 0 i = R.take i := by
  simp [cut, List.take_append_of_le_length hi]
theorem anyTake {l : List (List Int)} {p : List Int → Bool} {i k : Nat} (hi : i ≤ l.length) (h : firstAt (fun j => p (l.getD j [])) i k) : (l.take i).any p = true := by
  refine firstAt.any (d := []) (i := k) ⟨by rw [List.length_take]; have := h.1; omega, ?_, fun j hj => ?_⟩
  · show p ((l.take i).getD k []) = true
    have := h.1
    rw [show (l.take i).getD k [] = l.getD k [] by simp [List.getD_eq_getElem?_getD, List.getElem?_take, this]]; exact h.2.1
  · show p ((l.take i).getD j []) = false
    have := h.1
    rw [show (l.take i).getD j [] = l.getD j [] by simp [List.getD_eq_getElem?_getD, List.getElem?_take, Nat.lt_trans hj this]]; exact h.2.2 j hj
theorem noneTake {l : List (List Int)} {p : List Int → Bool} {i : Nat} (hi : i ≤ l.length) (h : noneTo (fun j => p (l.getD j [])) i) : (l.take i).any p = false := by
  refine noneTo.any (d := []) fun j hj => ?_
  have hj : j < i := by rw [List.length_take] at hj; omega
  show p ((l.take i).getD j []) = false
  rw [show (l.take i).getD j [] = l.getD j [] by simp [List.getD_eq_getElem?_getD, List.getElem?_take, hj]]; exact h j hj
theorem loops2a {P : Program} {l : List (FuncId × Spec)} {fn : Func} {k : Nat} {s : LSum} (hn : (loopsOf (bodyOf fn)).length = 2) (hk : loopId (bodyL fn 0) = k) (hk1 : (hkl l [(k, s)]).loop (loopId (bodyL fn 1)) = none) (h : ∀ Q x, s Q x → XWP P (.loop (bodyL fn 0)) Q x) : LoopsOK P (hkl l [(k, s)]) (bodyOf fn) :=
  loops_ok 2 hn fun i hi s' hs Q x hq => by
    match i, hi with
    | 1, _ => rw [hk1] at hs; cases hs
    | 0, _ =>
      rw [hk] at hs
      have hs' : some s = some s' := by simpa [lookL, hkl, hkA, beq_self] using hs
      cases hs'
      exact h Q x hq
def stRM (R : List (List D)) (sp : List (List D)) (v : Bool) (i : Int) : X := ⟨mkT 40 [(0, aS 3 R sp), (2, ab v), (8, aS 3 R sp), (9, ai R.length), (10, ai i)], [], []⟩
def v_stRM (R : List (List D)) (sp : List (List D)) : Vw := fun y K => wB y 2 fun v => wI y 10 fun i => K (stRM R sp v i)
theorem v_stRM_ok (R : List (List D)) (sp : List (List D)) : VwOK (v_stRM R sp) := fun y K h => by
  unfold v_stRM at h
  obtain ⟨v, h⟩ := wB_ex h
  obtain ⟨i, h⟩ := wI_ex h
  exact ⟨_, h⟩
theorem rRM (R sp : List (List D)) (v : Bool) (i : Int) (N : X → Prop) (E : Exit → X → Prop) : (roundW Try.prog (hkA band bor [(77, sB lab), (78, sB ix4), (79, sB clk), (72, sOf), (71, sCoR)] []) Try.f40 0 [] [0, 2, 8, 9, 10] [] (v_stRM R sp) (v_stRM R sp) N E (stRM R sp v i)) = (bif decide (i < @Nat.cast Int _ (List.length R)) then bif decide (0 ≤ i) && decide (i < @Nat.cast Int _ (List.length R)) then bif isJ [IntKind.i64, IntKind.i64, IntKind.i64] (List.drop (0) (List.getD R (Int.toNat i) [])) then bif !lab (hdJ (List.drop (0) (List.getD R (Int.toNat i) []))) then stRM R sp false i = stRM R sp false i ∧ E Exit.ret (stRM R sp false i) else bif !ix4 (hdJ (List.tail (List.drop (0) (List.getD R (Int.toNat i) [])))) then stRM R sp false i = stRM R sp false i ∧ E Exit.ret (stRM R sp false i) else bif !clk (hdJ (List.tail (List.tail (List.drop (0) (List.getD R (Int.toNat i) []))))) then stRM R sp false i = stRM R sp false i ∧ E Exit.ret (stRM R sp false i) else bif true && (decide (0 ≤ i) && decide (i ≤ @Nat.cast Int _ (List.length R + List.length sp))) then bif okZ (3) (cut (R ++ sp) (0) (Int.toNat i - 0)) then bif List.any (toZ (cut (R ++ sp) (0) (Int.toNat i - 0))) (sameW (hdJ (List.drop (0) (List.getD R (Int.toNat i) []))) (hdJ (List.tail (List.drop (0) (List.getD R (Int.toNat i) [])))) (hdJ (List.tail (List.tail (List.drop (0) (List.getD R (Int.toNat i) [])))))) then stRM R sp false i = stRM R sp false i ∧ E Exit.ret (stRM R sp false i) else stRM R sp v (IntKind.wrap IntKind.i64 (i + 1)) = stRM R sp v (IntKind.wrap IntKind.i64 (i + 1)) ∧ N (stRM R sp v (IntKind.wrap IntKind.i64 (i + 1))) else False else False else False else False else stRM R sp v i = stRM R sp v i ∧ E (Exit.exit (0)) (stRM R sp v i)) := by kernel_rfl
def fRM (l : List (List Int)) (sp : List (List D)) : LSum := findS [0, 2, 8, 9, 10] [] (fun i => stRM (mZ l) sp false i) (fun i => stRM (mZ l) sp false i) l.length (badR l) .ret (.exit 0)
theorem kRM {l : List (List Int)} {sp : List (List D)} (hw : wid 3 l) (hn : l.length ≤ 9223372036854775807) (Q : Exit → X → Prop) (x : X) (h : fRM l sp Q x) : XWP Try.prog (.loop (bodyL Try.f40 0)) Q x := by
  refine xwp_find (H := hkA band bor [(77, sB lab), (78, sB ix4), (79, sB clk), (72, sOf), (71, sCoR)] []) (sw := []) (V := v_stRM (mZ l) sp) (VE := v_stRM (mZ l) sp) (hkl_ok (.cons oLab (.cons oIdx (.cons oClk (.cons oOf (.cons oCoR .nil)))))) mixed (loops_nil rfl) (v_stRM_ok (mZ l) sp) (v_stRM_ok (mZ l) sp) _ _ _ _ _ _ (fun i hl N E h1 h2 => ?_) (fun N E h1 => ?_) Q x h
  · rw [rRM]
    have wi : IntKind.wrap .i64 ((i : Int) + 1) = ((i + 1 : Nat) : Int) := wrap_nat (n := 1) (by omega)
    have hj1 : isJ [IntKind.i64, IntKind.i64, IntKind.i64] ((mZ l).getD i []) = true := isJ_mZ (j := 0) (n := 3) hw hl (by omega)
    have hc : cut (mZ l ++ sp) 0 i = mZ (l.take i) := by rw [cut_take _ _ (by rw [mZ_len]; omega), mZ_take]
    have ho : okZ 3 (mZ (l.take i)) = true := okZ_mZ (wid_take hw i) (by simp; omega)
    have hb : decide ((i : Int) ≤ ((l.length + sp.length : Nat) : Int)) = true := by simp; omega
    simp only [mZ_len, Int.ofNat_lt, hl, decide_true, cond_true, Int.natCast_nonneg, Bool.and_self, Int.toNat_natCast, hdJ_mZt1, hdJ_mZt2, hj1, List.drop_zero, hdJ_mZ0, true_and, wi, Nat.sub_zero, hc, ho, hb, toZ_mZ]
    unfold badR ok1 at h1 h2
    revert h1 h2
    generalize lab ((l.getD i []).getD 0 0) = p1
    generalize ix4 ((l.getD i []).getD 1 0) = p2
    generalize clk ((l.getD i []).getD 2 0) = p3
    generalize (l.take i).any (sameW ((l.getD i []).getD 0 0) ((l.getD i []).getD 1 0) ((l.getD i []).getD 2 0)) = p4
    cases p1 <;> cases p2 <;> cases p3 <;> cases p4 <;> intro h1 h2 <;> first | exact h1 rfl | exact h2 rfl
  · rw [rRM]
    simp only [mZ_len, Int.ofNat_lt, Nat.lt_irrefl, decide_false, cond_false, true_and]
    exact h1
theorem eRM (l : List (List Int)) (sp : List (List D)) (K : DV → Prop) : (askL Try.prog [] [(4, fRM l sp)] Try.f40 [dS 3 (mZ l) sp] K) = (bif decide (@Nat.cast Int _ (List.length (mZ l)) > 16) then K (DV.c (D.v (Value.bool false))) else stRM (mZ l) sp false (0) = stRM (mZ l) sp false (0) ∧ (∀ (i : Nat), firstAt (badR l) (List.length l) i → K (DV.c (D.v (Value.bool false)))) ∧ (noneTo (badR l) (List.length l) → K (DV.c (D.v (Value.bool true))))) := by kernel_rfl
def sRM : Spec := fun ds Q => match ds with | [.c (.s 0 3 R sp)] => cond (okZ 3 R) (Q (B (rmay (toZ R)))) False | _ => False
theorem oRM : SpecOK Try.prog 40 sRM := o_of Try.func40 (by kernel_rfl) rfl fun ds Q h => by
  unfold sRM at h; split at h
  · rename_i R sp
    obtain ⟨h1, h2⟩ := cond_P h
    obtain ⟨e1, w1, n1⟩ := okZ_spec h1
    rw [e1]
    rw [← toZ_len R] at n1
    generalize toZ R = l at *
    refine ⟨_, ct_askL (l := []) (m := [(4, fRM l sp)]) .nil mixed (loops1 rfl (by kernel_rfl) (kRM w1 n1)) Try.func40 rfl rfl rfl ?_, rfl, rfl, h2⟩
    rw [eRM]
    have hg : decide (((mZ l).length : Int) > 16) = !decide (l.length ≤ 16) := by rw [mZ_len]; by_cases h : l.length ≤ 16 <;> simp [h] <;> omega
    rw [hg]
    cases hd : decide (l.length ≤ 16) with
    | false => simp [rmay, hd]
    | true =>
      simp only [Bool.not_true, cond_false]
      refine ⟨by trivial, fun i hi => ?_, fun hn => ?_⟩
      · rw [rmay, hi.b]; simp
      · rw [rmay, hn.b, hd]; rfl
  · exact h.elim
def stQM (R : List (List D)) (sp : List (List D)) (v : Bool) (i : Int) : X := ⟨mkT 64 [(0, aS 3 R sp), (2, ab v), (3, ai i)], [], []⟩
def v_stQM (R : List (List D)) (sp : List (List D)) : Vw := fun y K => wB y 2 fun v => wI y 3 fun i => K (stQM R sp v i)
theorem v_stQM_ok (R : List (List D)) (sp : List (List D)) : VwOK (v_stQM R sp) := fun y K h => by
  unfold v_stQM at h
  obtain ⟨v, h⟩ := wB_ex h
  obtain ⟨i, h⟩ := wI_ex h
  exact ⟨_, h⟩
def stQN (R : List (List D)) (sp : List (List D)) (i : Int) (v : Bool) (j : Int) : X := ⟨mkT 64 [(0, aS 3 R sp), (2, ab v), (3, ai i), (4, ai j)], [], []⟩
def v_stQN (R : List (List D)) (sp : List (List D)) (i : Int) : Vw := fun y K => wB y 2 fun v => wI y 4 fun j => K (stQN R sp i v j)
theorem v_stQN_ok (R : List (List D)) (sp : List (List D)) (i : Int) : VwOK (v_stQN R sp i) := fun y K h => by
  unfold v_stQN at h
  obtain ⟨v, h⟩ := wB_ex h
  obtain ⟨j, h⟩ := wI_ex h
  exact ⟨_, h⟩
theorem rQN (R sp : List (List D)) (i : Int) (v : Bool) (j : Int) (N : X → Prop) (E : Exit → X → Prop) : (roundW Try.prog (hkA band bor [] []) Try.f41 1 [] [0, 2, 3, 4] [] (v_stQN R sp i) (v_stQN R sp i) N E (stQN R sp i v j)) = (bif decide (j < i) then bif decide (0 ≤ j) && decide (j < @Nat.cast Int _ (List.length R)) then bif isJ [IntKind.i64] (List.drop (0) (List.getD R (Int.toNat j) [])) then bif decide (0 ≤ i) && decide (i < @Nat.cast Int _ (List.length R)) then bif isJ [IntKind.i64] (List.drop (0) (List.getD R (Int.toNat i) [])) then bif hdJ (List.drop (0) (List.getD R (Int.toNat j) [])) == hdJ (List.drop (0) (List.getD R (Int.toNat i) [])) then bif decide (0 ≤ j) && decide (j < @Nat.cast Int _ (List.length R)) then bif isJ [IntKind.i64] (List.drop (1) (List.getD R (Int.toNat j) [])) then bif decide (0 ≤ i) && decide (i < @Nat.cast Int _ (List.length R)) then bif isJ [IntKind.i64] (List.drop (1) (List.getD R (Int.toNat i) [])) then bif hdJ (List.drop (1) (List.getD R (Int.toNat j) [])) == hdJ (List.drop (1) (List.getD R (Int.toNat i) [])) then stQN R sp i false j = stQN R sp i false j ∧ E Exit.ret (stQN R sp i false j) else stQN R sp i v (IntKind.wrap IntKind.i64 (j + 1)) = stQN R sp i v (IntKind.wrap IntKind.i64 (j + 1)) ∧ N (stQN R sp i v (IntKind.wrap IntKind.i64 (j + 1))) else False else False else False else False else stQN R sp i v (IntKind.wrap IntKind.i64 (j + 1)) = stQN R sp i v (IntKind.wrap IntKind.i64 (j + 1)) ∧ N (stQN R sp i v (IntKind.wrap IntKind.i64 (j + 1))) else False else False else False else False else stQN R sp i v j = stQN R sp i v j ∧ E (Exit.exit (2)) (stQN R sp i v j)) := by kernel_rfl
def fQN (l : List (List Int)) (sp : List (List D)) (i : Nat) : LSum := fun Q x => cond (decide (i < l.length)) (findS [0, 2, 3, 4] [] (fun j => stQN (mZ l) sp i false j) (fun j => stQN (mZ l) sp i false j) i (fun j => sameW ((l.getD i []).getD 0 0) ((l.getD i []).getD 1 0) ((l.getD i []).getD 2 0) (l.getD j [])) .ret (.exit 2) Q x) False
theorem kQN {l : List (List Int)} {sp : List (List D)} (hw : wid 3 l) (hn : l.length ≤ 9223372036854775807) {i : Nat} (Q : Exit → X → Prop) (x : X) (h : fQN l sp i Q x) : XWP Try.prog (.loop (bodyL Try.f41 1)) Q x := by
  obtain ⟨hi, h⟩ := cond_P h
  have hi := of_decide_eq_true hi
  refine xwp_find (H := hkA band bor [] []) (sw := []) (V := v_stQN (mZ l) sp i) (VE := v_stQN (mZ l) sp i) (hkl_ok .nil) mixed (loops_nil rfl) (v_stQN_ok (mZ l) sp i) (v_stQN_ok (mZ l) sp i) _ _ _ _ _ _ (fun j hl N E h1 h2 => ?_) (fun N E h1 => ?_) Q x h
  · rw [rQN]
    have wi : IntKind.wrap .i64 ((j : Int) + 1) = ((j + 1 : Nat) : Int) := wrap_nat (n := 1) (by omega)
    have hjl : j < l.length := by omega
    have a1 : isJ [IntKind.i64] ((mZ l).getD i []) = true := isJ_mZ (j := 0) (n := 1) hw hi (by omega)
    have a2 : isJ [IntKind.i64] (List.drop 1 ((mZ l).getD i [])) = true := isJ_mZ (j := 1) (n := 1) hw hi (by omega)
    have b1 : isJ [IntKind.i64] ((mZ l).getD j []) = true := isJ_mZ (j := 0) (n := 1) hw hjl (by omega)
    have b2 : isJ [IntKind.i64] (List.drop 1 ((mZ l).getD j [])) = true := isJ_mZ (j := 1) (n := 1) hw hjl (by omega)
    simp only [mZ_len, Int.ofNat_lt, hl, hi, hjl, decide_true, cond_true, Int.natCast_nonneg, Bool.and_self, Int.toNat_natCast, a1, a2, b1, b2, List.drop_zero, hdJ_mZ0, hdJ_mZ, true_and, wi]
    unfold sameW at h1 h2
    revert h1 h2
    generalize ((l.getD j []).getD 0 0 == (l.getD i []).getD 0 0) = p1
    generalize ((l.getD j []).getD 1 0 == (l.getD i []).getD 1 0) = p2
    cases p1 <;> cases p2 <;> intro h1 h2 <;> first | exact h1 rfl | exact h2 rfl
  · rw [rQN]
    simp only [mZ_len, Int.ofNat_lt, Nat.lt_irrefl, decide_false, cond_false, true_and]
    exact h1
theorem rQM (l : List (List Int)) (sp : List (List D)) (n : Nat) (N : X → Prop) (E : Exit → X → Prop) : (roundW Try.prog (hkA band bor [(80, sWN), (81, sB clk)] [(7, fQN l sp n)]) Try.f41 0 [] [0, 2, 3] [] (v_stQM (mZ l) sp) (v_stQM (mZ l) sp) N E (stQM (mZ l) sp false (n : Int))) = (bif decide (@Nat.cast Int _ n < @Nat.cast Int _ (List.length (mZ l))) then bif decide (0 ≤ @Nat.cast Int _ n) && decide (@Nat.cast Int _ n < @Nat.cast Int _ (List.length (mZ l))) then bif isJ [IntKind.i64] (List.drop (0) (List.getD (mZ l) (Int.toNat (@Nat.cast Int _ n)) [])) then bif decide (0 ≤ @Nat.cast Int _ n) && decide (@Nat.cast Int _ n < @Nat.cast Int _ (List.length (mZ l))) then bif isJ [IntKind.i64] (List.drop (1) (List.getD (mZ l) (Int.toNat (@Nat.cast Int _ n)) [])) then bif !wnm (hdJ (List.drop (0) (List.getD (mZ l) (Int.toNat (@Nat.cast Int _ n)) []))) (hdJ (List.drop (1) (List.getD (mZ l) (Int.toNat (@Nat.cast Int _ n)) []))) then stQM (mZ l) sp false (@Nat.cast Int _ n) = stQM (mZ l) sp false (@Nat.cast Int _ n) ∧ E Exit.ret (stQM (mZ l) sp false (@Nat.cast Int _ n)) else bif decide (0 ≤ @Nat.cast Int _ n) && decide (@Nat.cast Int _ n < @Nat.cast Int _ (List.length (mZ l))) then bif isJ [IntKind.i64] (List.drop (2) (List.getD (mZ l) (Int.toNat (@Nat.cast Int _ n)) [])) then bif !clk (hdJ (List.drop (2) (List.getD (mZ l) (Int.toNat (@Nat.cast Int _ n)) []))) then stQM (mZ l) sp false (@Nat.cast Int _ n) = stQM (mZ l) sp false (@Nat.cast Int _ n) ∧ E Exit.ret (stQM (mZ l) sp false (@Nat.cast Int _ n)) else bif decide (n < List.length l) then stQN (mZ l) sp (@Nat.cast Int _ n) false (0) = stQN (mZ l) sp (@Nat.cast Int _ n) false (0) ∧ (∀ (i : Nat), firstAt (fun j => sameW (List.getD (List.getD l n []) (0) (0)) (List.getD (List.getD l n []) (1) (0)) (List.getD (List.getD l n []) (2) (0)) (List.getD l j [])) n i → stQM (mZ l) sp false (@Nat.cast Int _ n) = stQM (mZ l) sp false (@Nat.cast Int _ n) ∧ E Exit.ret (stQM (mZ l) sp false (@Nat.cast Int _ n))) ∧ (noneTo (fun j => sameW (List.getD (List.getD l n []) (0) (0)) (List.getD (List.getD l n []) (1) (0)) (List.getD (List.getD l n []) (2) (0)) (List.getD l j [])) n → stQM (mZ l) sp false (IntKind.wrap IntKind.i64 (@Nat.cast Int _ n + 1)) = stQM (mZ l) sp false (IntKind.wrap IntKind.i64 (@Nat.cast Int _ n + 1)) ∧ N (stQM (mZ l) sp false (IntKind.wrap IntKind.i64 (@Nat.cast Int _ n + 1)))) else False else False else False else False else False else False else False else stQM (mZ l) sp false (@Nat.cast Int _ n) = stQM (mZ l) sp false (@Nat.cast Int _ n) ∧ E (Exit.exit (0)) (stQM (mZ l) sp false (@Nat.cast Int _ n))) := by kernel_rfl
def fQM (l : List (List Int)) (sp : List (List D)) : LSum := findS [0, 2, 3] [] (fun i => stQM (mZ l) sp false i) (fun i => stQM (mZ l) sp false i) l.length (badR l) .ret (.exit 0)
theorem loopsQ {l : List (List Int)} {sp : List (List D)} {n : Nat} (h : ∀ Q x, fQN l sp n Q x → XWP Try.prog (.loop (bodyL Try.f41 1)) Q x) (L : List (FuncId × Spec)) : LoopsOK Try.prog (hkA band bor L [(7, fQN l sp n)]) (bodyL Try.f41 0) := fun b hb s hs Q x hq => by
  have e : loopsOf (bodyL Try.f41 0) = [bodyL Try.f41 1] := by kernel_rfl
  rw [e] at hb
  have hb := List.mem_singleton.1 hb
  subst hb
  have e2 : loopId (bodyL Try.f41 1) = 7 := by kernel_rfl
  rw [e2] at hs
  have hs' : some (fQN l sp n) = some s := by simpa [lookL, hkl, hkA, beq_self] using hs
  cases hs'
  exact h Q x hq
theorem kQM {l : List (List Int)} {sp : List (List D)} (hw : wid 3 l) (hn : l.length ≤ 9223372036854775807) (Q : Exit → X → Prop) (x : X) (h : fQM l sp Q x) : XWP Try.prog (.loop (bodyL Try.f41 0)) Q x := by
  refine xwp_findX (sw := []) (V := v_stQM (mZ l) sp) (VE := v_stQM (mZ l) sp) mixed (v_stQM_ok (mZ l) sp) (v_stQM_ok (mZ l) sp) _ _ _ _ _ _ (fun i hl => ⟨_, hkl_ok (.cons oWN (.cons oRClk .nil)), loopsQ (sp := sp) (n := i) (kQN hw hn) _, fun N E h1 h2 => ?_⟩) ⟨_, hkl_ok (.cons oWN (.cons oRClk .nil)), loopsQ (sp := sp) (n := l.length) (kQN hw hn) _, fun N E h1 => ?_⟩ Q x h
  · rw [rQM]
    have wi : IntKind.wrap .i64 ((i : Int) + 1) = ((i + 1 : Nat) : Int) := wrap_nat (n := 1) (by omega)
    have a1 : isJ [IntKind.i64] ((mZ l).getD i []) = true := isJ_mZ (j := 0) (n := 1) hw hl (by omega)
    have a2 : isJ [IntKind.i64] (List.drop 1 ((mZ l).getD i [])) = true := isJ_mZ (j := 1) (n := 1) hw hl (by omega)
    have a3 : isJ [IntKind.i64] (List.drop 2 ((mZ l).getD i [])) = true := isJ_mZ (j := 2) (n := 1) hw hl (by omega)
    simp only [mZ_len, Int.ofNat_lt, hl, decide_true, cond_true, Int.natCast_nonneg, Bool.and_self, Int.toNat_natCast, a1, a2, a3, List.drop_zero, hdJ_mZ0, hdJ_mZ, true_and, wi]
    unfold badR ok1 at h1 h2
    unfold wnm
    have ha : ∀ i', firstAt (fun j => sameW ((l.getD i []).getD 0 0) ((l.getD i []).getD 1 0) ((l.getD i []).getD 2 0) (l.getD j [])) i i' → (l.take i).any (sameW ((l.getD i []).getD 0 0) ((l.getD i []).getD 1 0) ((l.getD i []).getD 2 0)) = true := fun i' hi' => anyTake (by omega) hi'
    have hb : noneTo (fun j => sameW ((l.getD i []).getD 0 0) ((l.getD i []).getD 1 0) ((l.getD i []).getD 2 0) (l.getD j [])) i → (l.take i).any (sameW ((l.getD i []).getD 0 0) ((l.getD i []).getD 1 0) ((l.getD i []).getD 2 0)) = false := fun hi' => noneTake (by omega) hi'
    revert h1 h2
    cases lab ((l.getD i []).getD 0 0) <;> cases ix4 ((l.getD i []).getD 1 0) <;> cases clk ((l.getD i []).getD 2 0) <;> intro h1 h2
    all_goals first | exact h1 rfl | exact ⟨fun i' hi' => h1 (by rw [ha i' hi']; rfl), fun hi' => h2 (by rw [hb hi']; rfl)⟩
  · rw [rQM]
    simp only [mZ_len, Int.ofNat_lt, Nat.lt_irrefl, decide_false, cond_false, true_and]
    exact h1
theorem eQM (l : List (List Int)) (sp : List (List D)) (K : DV → Prop) : (askL Try.prog [] [(2, fQM l sp)] Try.f41 [dS 3 (mZ l) sp] K) = (stQM (mZ l) sp false (0) = stQM (mZ l) sp false (0) ∧ (∀ (i : Nat), firstAt (badR l) (List.length l) i → K (DV.c (D.v (Value.bool false)))) ∧ (noneTo (badR l) (List.length l) → K (DV.c (D.v (Value.bool (decide (@Nat.cast Int _ (List.length (mZ l)) ≤ 16))))))) := by kernel_rfl
theorem oQM : SpecOK Try.prog 41 sRM := o_of Try.func41 (by kernel_rfl) rfl fun ds Q h => by
  unfold sRM at h; split at h
  · rename_i R sp
    obtain ⟨h1, h2⟩ := cond_P h
    obtain ⟨e1, w1, n1⟩ := okZ_spec h1
    rw [e1]
    rw [← toZ_len R] at n1
    generalize toZ R = l at *
    refine ⟨_, ct_askL (l := []) (m := [(2, fQM l sp)]) .nil mixed (loops2a rfl (by kernel_rfl) (by kernel_rfl) (kQM w1 n1)) Try.func41 rfl rfl rfl ?_, rfl, rfl, h2⟩
    rw [eQM]
    refine ⟨by trivial, fun i hi => ?_, fun hn => ?_⟩
    · rw [rmay, hi.b]; simp
    · rw [rmay, hn.b, mZ_len]; by_cases hl : l.length ≤ 16 <;> simp [hl] <;> omega
  · exact h.elim
end Vm