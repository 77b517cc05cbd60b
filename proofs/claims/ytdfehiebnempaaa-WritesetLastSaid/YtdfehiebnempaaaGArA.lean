/- What the functions of this text do, told by an interpreter that is proved right (YtdfehiebnempaaaGA to GD). My own work. -/
import Derived.Test.YtdfehiebnempaaaGStA
namespace Vm
open Go Go.Proofs
set_option linter.unusedSimpArgs false
set_option linter.unusedVariables false
set_option maxRecDepth 100000
/-! ### rows of Words -/
def stSameWords (R sp R' sp' : List (List D)) (i : Int) (p : Bool) : X := ⟨mkT 26 [(0, aS 3 R sp), (1, aS 3 R' sp'), (4, ab p), (5, ai i)], [], []⟩
def vSameWords (R sp R' sp' : List (List D)) (y : X) : X := stSameWords R sp R' sp' (slotI y 5) (slotB y 4)
theorem eSameWordsr (R sp R' sp' : List (List D)) (i : Int) (p : Bool) (N : X → Prop) (E : Exit → X → Prop) : (roundA band bor Try.prog [] [] Try.f65 0 [0, 1, 4, 5] [] (vSameWords R sp R' sp') (vSameWords R sp R' sp') N E (stSameWords R sp R' sp' i p)) = (bif decide (i < @Nat.cast Int _ (List.length R)) then bif decide (0 ≤ i) && decide (i < @Nat.cast Int _ (List.length R)) then bif isJ [IntKind.i64, IntKind.i64, IntKind.i64] (List.drop (0) (List.getD R (Int.toNat i) [])) then bif decide (0 ≤ i) && decide (i < @Nat.cast Int _ (List.length R')) then bif isJ [IntKind.i64, IntKind.i64, IntKind.i64] (List.drop (0) (List.getD R' (Int.toNat i) [])) then bif !eqI [hdJ (List.drop (0) (List.getD R (Int.toNat i) [])), hdJ (List.tail (List.drop (0) (List.getD R (Int.toNat i) []))), hdJ (List.tail (List.tail (List.drop (0) (List.getD R (Int.toNat i) []))))] [hdJ (List.drop (0) (List.getD R' (Int.toNat i) [])), hdJ (List.tail (List.drop (0) (List.getD R' (Int.toNat i) []))), hdJ (List.tail (List.tail (List.drop (0) (List.getD R' (Int.toNat i) []))))] then stSameWords R sp R' sp' i false = stSameWords R sp R' sp' i false ∧ E Exit.ret (stSameWords R sp R' sp' i false) else stSameWords R sp R' sp' (IntKind.wrap IntKind.i64 (i + 1)) p = stSameWords R sp R' sp' (IntKind.wrap IntKind.i64 (i + 1)) p ∧ N (stSameWords R sp R' sp' (IntKind.wrap IntKind.i64 (i + 1)) p) else False else False else False else False else stSameWords R sp R' sp' i p = stSameWords R sp R' sp' i p ∧ E (Exit.exit (0)) (stSameWords R sp R' sp' i p)) := by kernel_rfl
def sumSameWords (l l' : List (List Int)) (sp sp' : List (List D)) : LSum := fun Q x => x.only [0, 1, 4, 5] [] = stSameWords (mZ l) sp (mZ l') sp' 0 false ∧ (l = l' → Q (.exit 0) (stSameWords (mZ l) sp (mZ l') sp' l.length false)) ∧ (l ≠ l' → ∀ i : Int, Q .ret (stSameWords (mZ l) sp (mZ l') sp' i false))
theorem eSameWords (l l' : List (List Int)) (sp sp' : List (List D)) (K : DV → Prop) : (askL Try.prog [] [(4, sumSameWords l l' sp sp')] Try.f65 [dS 3 (mZ l) sp, dS 3 (mZ l') sp'] K) = (bif @Nat.cast Int _ (List.length (mZ l)) != @Nat.cast Int _ (List.length (mZ l')) then K (DV.c (D.v (Value.bool false))) else stSameWords (mZ l) sp (mZ l') sp' (0) false = stSameWords (mZ l) sp (mZ l') sp' (0) false ∧ (l = l' → K (DV.c (D.v (Value.bool true)))) ∧ (l ≠ l' → ∀ (i : Int), K (DV.c (D.v (Value.bool false))))) := by kernel_rfl
theorem eSameWords' (l l' : List (List Int)) (sp sp' : List (List D)) (K : DV → Prop) : (askL Try.prog [] [(4, fun _ _ => False)] Try.f65 [dS 3 (mZ l) sp, dS 3 (mZ l') sp'] K) = (bif @Nat.cast Int _ (List.length (mZ l)) != @Nat.cast Int _ (List.length (mZ l')) then K (DV.c (D.v (Value.bool false))) else False) := by kernel_rfl
theorem sameWords_ok {l l' : List (List Int)} {sp sp' : List (List D)} (hw : wid 3 l) (hw' : wid 3 l') (hlen : l.length = l'.length) (hn : l.length ≤ 9223372036854775807) (Q : Exit → X → Prop) (x : X) (h : sumSameWords l l' sp sp' Q x) : XWP Try.prog (.loop (bodyL Try.f65 0)) Q x := by
  obtain ⟨h1, h2, h3⟩ := h
  refine xwp_roundH (ι := Nat) (H := hkA band bor [] []) (fn := Try.f65) (i := 0) (ts := [0, 1, 4, 5]) (ks := []) (hkl_ok .nil) mixed (loops_nil rfl)
    (fun i => stSameWords (mZ l) sp (mZ l') sp' i false) (fun i => i ≤ l.length ∧ ∀ j, j < i → l.getD j [] = l'.getD j []) (fun i => l.length - i) 0 (vSameWords (mZ l) sp (mZ l') sp') (vSameWords (mZ l) sp (mZ l') sp') (fun i hp => ?_) ⟨Nat.zero_le _, fun j hj => by omega⟩ h1
  obtain ⟨hi, hj⟩ := hp
  show roundA band bor Try.prog _ _ Try.f65 0 _ _ _ _ _ _ _
  rw [eSameWordsr]
  by_cases hl : i < l.length
  · have wi : IntKind.wrap .i64 ((i : Int) + 1) = ((i + 1 : Nat) : Int) := wrap_nat (n := 1) (by omega)
    have hl' : i < l'.length := by omega
    have hj1 : isJ [IntKind.i64, IntKind.i64, IntKind.i64] ((mZ l).getD i []) = true := isJ_mZ (j := 0) (n := 3) hw hl (by omega)
    have hj2 : isJ [IntKind.i64, IntKind.i64, IntKind.i64] ((mZ l').getD i []) = true := isJ_mZ (j := 0) (n := 3) hw' hl' (by omega)
    have he := eqI_beq (l.getD i []) (l'.getD i []) (by rw [wid_get hw hl, wid_get hw' hl'])
    rw [← row3 (wid_get hw hl), ← row3 (wid_get hw' hl')] at he
    simp only [mZ_len, Int.ofNat_lt, hl, hl', decide_true, cond_true, Int.natCast_nonneg, Bool.and_self, Int.toNat_natCast, hdJ_mZt1, hdJ_mZt2, hdJ_mZt3, hj1, hj2, List.drop_zero, hdJ_mZ0, true_and, wi, he]
    rw [row3 (wid_get hw hl), row3 (wid_get hw' hl')]
    by_cases hee : l.getD i [] = l'.getD i []
    · rw [decide_eq_true hee]
      refine ⟨i + 1, by omega, ⟨hl, fun j hji => ?_⟩, rfl⟩
      rcases Nat.lt_succ_iff_lt_or_eq.1 hji with hji | rfl
      · exact hj j hji
      · exact hee
    · rw [decide_eq_false hee]
      exact h3 (fun e => hee (by rw [e])) _
  · have e : i = l.length := by omega
    subst e
    simp only [mZ_len, Int.ofNat_lt, Nat.lt_irrefl, decide_false, cond_false, true_and]
    exact h2 (getD_ext hlen fun j h => hj j h)
theorem cSameWords {l l' : List (List Int)} {sp sp' : List (List D)} (hw : wid 3 l) (hw' : wid 3 l') (hn : l.length ≤ 9223372036854775807) : CT Try.prog 65 [dS 3 (mZ l) sp, dS 3 (mZ l') sp'] (B (decide (l = l'))) := by
  by_cases hlen : l.length = l'.length
  · refine ct_askL (l := []) (m := [(4, sumSameWords l l' sp sp')]) .nil mixed (loops1 rfl (by kernel_rfl) (sameWords_ok hw hw' hlen hn)) Try.func65 rfl rfl rfl ?_
    rw [eSameWords]
    have : (((mZ l).length : Int) != ((mZ l').length : Int)) = false := by simp [mZ_len, hlen]
    rw [this]
    by_cases he : l = l'
    · simp [he]
    · simp [he]
  · refine ct_askL (l := []) (m := [(4, fun _ _ => False)]) .nil mixed (loops1 rfl (by kernel_rfl) (fun _ _ h => h.elim)) Try.func65 rfl rfl rfl ?_
    rw [eSameWords']
    have : (((mZ l).length : Int) != ((mZ l').length : Int)) = true := by simp [mZ_len]; omega
    rw [this]
    have : l ≠ l' := fun e => hlen (by rw [e])
    simp [this]
def sSameWords : Spec := fun ds Q => match ds with | [.c (.s 0 3 R sp), .c (.s 0 3 R' sp')] => cond (okZ 3 R && okZ 3 R') (Q (B (decide (toZ R = toZ R')))) False | _ => False
theorem oSameWords : SpecOK Try.prog 65 sSameWords := o_of Try.func65 (by kernel_rfl) rfl fun ds Q h => by
  unfold sSameWords at h; split at h
  · rename_i R sp R' sp'
    obtain ⟨h1, h2⟩ := cond_P h
    simp only [Bool.and_eq_true] at h1
    obtain ⟨e1, w1, n1⟩ := okZ_spec h1.1
    obtain ⟨e2, w2, n2⟩ := okZ_spec h1.2
    rw [e1, e2]
    rw [toZ_len R |>.symm] at n1
    generalize toZ R = l at *
    generalize toZ R' = l' at *
    exact ⟨_, cSameWords w1 w2 n1, rfl, rfl, h2⟩
  · exact h.elim
def stSpoilWords (n kn : Nat) (i : Int) (W : List (List D)) : X := ⟨mkT 19 [(0, .c (.rs 1000000 0 3 0 n kn)), (2, ai i)], [(1000000, .sl 0 3 W)], []⟩
def vSpoilWords (n kn : Nat) (y : X) : X := stSpoilWords n kn (slotI y 2) (rowsL y 1000000)
theorem eSpoilWordsr (n kn : Nat) (i : Int) (W : List (List D)) (N : X → Prop) (E : Exit → X → Prop) : (roundA band bor Try.prog [] [] Try.f68 0 [0, 2] [1000000] (vSpoilWords n kn) (vSpoilWords n kn) N E (stSpoilWords n kn i W)) = (bif decide (i < @Nat.cast Int _ n) then bif decide (0 ≤ i) && decide (i < @Nat.cast Int _ n) then bif decide (addN (0) (Int.toNat i) < List.length W) then bif isJ [IntKind.i64] (List.drop (0) (List.getD W (addN (0) (Int.toNat i)) [])) then bif decide (0 ≤ i) && decide (i < @Nat.cast Int _ n) then bif decide (addN (0) (Int.toNat i) < List.length W) && decide (0 + 1 ≤ 3) then stSpoilWords n kn (IntKind.wrap IntKind.i64 (i + 1)) (List.set W (addN (0) (Int.toNat i)) (D.v (Value.int IntKind.i64 (bxor (hdJ (List.drop (0) (List.getD W (addN (0) (Int.toNat i)) []))) (90))) :: List.drop (0 + 1) (List.getD W (addN (0) (Int.toNat i)) []))) = stSpoilWords n kn (IntKind.wrap IntKind.i64 (i + 1)) (List.set W (addN (0) (Int.toNat i)) (D.v (Value.int IntKind.i64 (bxor (hdJ (List.drop (0) (List.getD W (addN (0) (Int.toNat i)) []))) (90))) :: List.drop (0 + 1) (List.getD W (addN (0) (Int.toNat i)) []))) ∧ N (stSpoilWords n kn (IntKind.wrap IntKind.i64 (i + 1)) (List.set W (addN (0) (Int.toNat i)) (D.v (Value.int IntKind.i64 (bxor (hdJ (List.drop (0) (List.getD W (addN (0) (Int.toNat i)) []))) (90))) :: List.drop (0 + 1) (List.getD W (addN (0) (Int.toNat i)) [])))) else False else False else False else False else False else stSpoilWords n kn i W = stSpoilWords n kn i W ∧ E (Exit.exit (0)) (stSpoilWords n kn i W)) := by kernel_rfl
theorem splice_vI0Words (v : Int) (r : List Int) (h : 0 < r.length) : D.v (Value.int IntKind.i64 v) :: List.drop (0 + 1) (r.map vI) = (r.set 0 v).map vI := by
  cases r with
  | nil => simp at h
  | cons a r => simp [vI, vi]
def sumSpoilWords (n kn : Nat) (W0 : List (List D)) : LSum := fun Q y => y.only [0, 2] [1000000] = stSpoilWords n kn 0 W0 ∧ ∀ i W, Q (.exit 0) (stSpoilWords n kn i W)
theorem eSpoilWords (R sp : List (List D)) (K : DV → Prop) : (askL Try.prog [] [(1, sumSpoilWords R.length (R.length + sp.length) (R ++ sp))] Try.f68 [oS 3 R sp] K) = (stSpoilWords (List.length R) (List.length R + List.length sp) (0) (R ++ sp) = stSpoilWords (List.length R) (List.length R + List.length sp) (0) (R ++ sp) ∧ ∀ (i : Int) (W : List (List D)), K (DV.tup [])) := by kernel_rfl
theorem eSpoilWordsn (K : DV → Prop) : (ask Try.prog [] Try.f68 [.c (.v (.slice none 0 0))] K) = (K (DV.tup [])) := by kernel_rfl
theorem spoilWords_ok {n kn : Nat} {l : List (List Int)} (hw : wid 3 l) (hnl : n ≤ l.length) (hn : l.length ≤ 9223372036854775807) (Q : Exit → X → Prop) (x : X) (h : sumSpoilWords n kn (mZ l) Q x) : XWP Try.prog (.loop (bodyL Try.f68 0)) Q x := by
  obtain ⟨h1, h2⟩ := h
  refine xwp_roundH (ι := Nat × List (List Int)) (H := hkA band bor [] []) (fn := Try.f68) (i := 0) (ts := [0, 2]) (ks := [1000000]) (hkl_ok .nil) mixed (loops_nil rfl)
    (fun p => stSpoilWords n kn p.1 (mZ p.2)) (fun p => p.1 ≤ n ∧ wid 3 p.2 ∧ p.2.length = l.length) (fun p => n - p.1) (0, l) (vSpoilWords n kn) (vSpoilWords n kn) (fun p hp => ?_) ⟨Nat.zero_le _, hw, rfl⟩ h1
  obtain ⟨i, m⟩ := p
  obtain ⟨hi, hm, hml⟩ := hp
  simp only at hi hm hml ⊢
  show roundA band bor Try.prog _ _ Try.f68 0 _ _ _ _ _ _ _
  rw [eSpoilWordsr]
  by_cases hl : i < n
  · have wi : IntKind.wrap .i64 ((i : Int) + 1) = ((i + 1 : Nat) : Int) := wrap_nat (n := 1) (by omega)
    have hlm : i < m.length := by omega
    have hj := isJ_mZ1 (j := 0) hm hlm (by omega)
    have hrow := wid_get hm hlm
    have hd1 : (0 + 1 ≤ 3) = True := by simp
    simp only [Int.ofNat_lt, hl, decide_true, cond_true, Int.natCast_nonneg, Bool.and_self, Int.toNat_natCast, addN, mZ_len, hlm, hj, hdJ_mZ, wi, hd1, true_and]
    rw [mZ_getD, splice_vI0Words _ _ (by rw [hrow]; omega), mZ_set]
    exact ⟨(i + 1, _), by simp; omega, ⟨hl, wid_set hm (by rw [List.length_set, hrow]), by rw [List.length_set, hml]⟩, rfl⟩
  · have e : ¬ ((i : Int) < (n : Int)) := by omega
    simp only [e, decide_false, cond_false, true_and]
    exact h2 _ _
def sSpoilWords : Spec := fun ds Q => match ds with
  | [.c (.s 1 3 R sp)] => cond (okZ 3 (R ++ sp)) (Q (.tup [])) False
  | [.c (.v (.slice none 0 0))] => Q (.tup [])
  | _ => False
theorem oSpoilWords : SpecOK Try.prog 68 sSpoilWords := o_of Try.func68 (by kernel_rfl) rfl fun ds Q h => by
  unfold sSpoilWords at h; split at h
  · rename_i R sp
    obtain ⟨h1, h2⟩ := cond_P h
    obtain ⟨e1, w1, n1⟩ := okZ_spec h1
    refine ⟨_, ct_askL (l := []) (m := [(1, sumSpoilWords R.length (R.length + sp.length) (R ++ sp))]) .nil mixed (loops1 rfl (by kernel_rfl) (by rw [e1]; exact spoilWords_ok w1 (by rw [toZ_len]; simp) (by rw [toZ_len]; exact n1))) Try.func68 rfl rfl (by simp [DV.fit32, DV.width]) ?_, rfl, rfl, h2⟩
    rw [eSpoilWords]
    exact ⟨rfl, fun _ _ => rfl⟩
  · refine ⟨_, ct_ask .nil mixed Try.func68 rfl rfl rfl ?_, rfl, rfl, h⟩
    rw [eSpoilWordsn]
  · exact h.elim
theorem eCloneWords (R sp : List (List D)) (K : DV → Prop) : (ask Try.prog [] Try.f94 [dS 3 R sp] K) = ((bif Nat.beq (List.length R) (OfNat.ofNat (0)) then K (DV.c (D.s (1) (3) [] [])) else True) ∧ bif allV R then bif true && (decide ((0 + List.length R) * 24 ≤ 140737488355328) && decide (0 + List.length R ≤ 9223372036854775807)) then bif decide (0 + List.length R ≤ List.length ([] ++ R)) && List.all ([] ++ R) fun r => List.all r D.keeps then K (DV.c (D.s (1) (3) (List.take (0 + List.length R) ([] ++ R)) (List.take (0 + List.length R - (0 + List.length R)) (List.drop (0 + List.length R) ([] ++ R))))) else False else False else False) := by kernel_rfl
def sCloneWords : Spec := fun ds Q => match ds with | [.c (.s 0 3 R sp)] => cond (allV R && decide (R.length ≤ 5864062014635)) (Q (.c (.s 1 3 R []))) False | _ => False
theorem oCloneWords : SpecOK Try.prog 94 sCloneWords := o_of Try.func94 (by kernel_rfl) rfl fun ds Q h => by
  unfold sCloneWords at h; split at h
  · rename_i R sp
    obtain ⟨h1, h2⟩ := cond_P h
    simp only [Bool.and_eq_true, decide_eq_true_eq] at h1
    refine ⟨_, ct_ask .nil mixed Try.func94 rfl rfl rfl ?_, by simp [DV.pureOwn, DV.pure1, D.pureOwn, ownLL_of h1.1]; rfl, rfl, h2⟩
    rw [eCloneWords]
    have g1 : (0 + R.length) * 24 ≤ 140737488355328 := by omega
    have g2 : 0 + R.length ≤ 9223372036854775807 := by omega
    refine ⟨?_, ?_⟩
    · cases R with
      | nil => exact (rfl : DV.c (D.s 1 3 [] []) = DV.c (D.s 1 3 [] []))
      | cons r R => exact trivial
    · simp [h1.1, keeps_of h1.1]
      exact ⟨by omega, by omega⟩
  · exact h.elim
/-! ### rows of Reads -/
def stSameReads (R sp R' sp' : List (List D)) (i : Int) (p : Bool) : X := ⟨mkT 26 [(0, aS 3 R sp), (1, aS 3 R' sp'), (4, ab p), (5, ai i)], [], []⟩
def vSameReads (R sp R' sp' : List (List D)) (y : X) : X := stSameReads R sp R' sp' (slotI y 5) (slotB y 4)
theorem eSameReadsr (R sp R' sp' : List (List D)) (i : Int) (p : Bool) (N : X → Prop) (E : Exit → X → Prop) : (roundA band bor Try.prog [] [] Try.f39 0 [0, 1, 4, 5] [] (vSameReads R sp R' sp') (vSameReads R sp R' sp') N E (stSameReads R sp R' sp' i p)) = (bif decide (i < @Nat.cast Int _ (List.length R)) then bif decide (0 ≤ i) && decide (i < @Nat.cast Int _ (List.length R)) then bif isJ [IntKind.i64, IntKind.i64, IntKind.i64] (List.drop (0) (List.getD R (Int.toNat i) [])) then bif decide (0 ≤ i) && decide (i < @Nat.cast Int _ (List.length R')) then bif isJ [IntKind.i64, IntKind.i64, IntKind.i64] (List.drop (0) (List.getD R' (Int.toNat i) [])) then bif !eqI [hdJ (List.drop (0) (List.getD R (Int.toNat i) [])), hdJ (List.tail (List.drop (0) (List.getD R (Int.toNat i) []))), hdJ (List.tail (List.tail (List.drop (0) (List.getD R (Int.toNat i) []))))] [hdJ (List.drop (0) (List.getD R' (Int.toNat i) [])), hdJ (List.tail (List.drop (0) (List.getD R' (Int.toNat i) []))), hdJ (List.tail (List.tail (List.drop (0) (List.getD R' (Int.toNat i) []))))] then stSameReads R sp R' sp' i false = stSameReads R sp R' sp' i false ∧ E Exit.ret (stSameReads R sp R' sp' i false) else stSameReads R sp R' sp' (IntKind.wrap IntKind.i64 (i + 1)) p = stSameReads R sp R' sp' (IntKind.wrap IntKind.i64 (i + 1)) p ∧ N (stSameReads R sp R' sp' (IntKind.wrap IntKind.i64 (i + 1)) p) else False else False else False else False else stSameReads R sp R' sp' i p = stSameReads R sp R' sp' i p ∧ E (Exit.exit (0)) (stSameReads R sp R' sp' i p)) := by kernel_rfl
def sumSameReads (l l' : List (List Int)) (sp sp' : List (List D)) : LSum := fun Q x => x.only [0, 1, 4, 5] [] = stSameReads (mZ l) sp (mZ l') sp' 0 false ∧ (l = l' → Q (.exit 0) (stSameReads (mZ l) sp (mZ l') sp' l.length false)) ∧ (l ≠ l' → ∀ i : Int, Q .ret (stSameReads (mZ l) sp (mZ l') sp' i false))
theorem eSameReads (l l' : List (List Int)) (sp sp' : List (List D)) (K : DV → Prop) : (askL Try.prog [] [(4, sumSameReads l l' sp sp')] Try.f39 [dS 3 (mZ l) sp, dS 3 (mZ l') sp'] K) = (bif @Nat.cast Int _ (List.length (mZ l)) != @Nat.cast Int _ (List.length (mZ l')) then K (DV.c (D.v (Value.bool false))) else stSameReads (mZ l) sp (mZ l') sp' (0) false = stSameReads (mZ l) sp (mZ l') sp' (0) false ∧ (l = l' → K (DV.c (D.v (Value.bool true)))) ∧ (l ≠ l' → ∀ (i : Int), K (DV.c (D.v (Value.bool false))))) := by kernel_rfl
theorem eSameReads' (l l' : List (List Int)) (sp sp' : List (List D)) (K : DV → Prop) : (askL Try.prog [] [(4, fun _ _ => False)] Try.f39 [dS 3 (mZ l) sp, dS 3 (mZ l') sp'] K) = (bif @Nat.cast Int _ (List.length (mZ l)) != @Nat.cast Int _ (List.length (mZ l')) then K (DV.c (D.v (Value.bool false))) else False) := by kernel_rfl
theorem sameReads_ok {l l' : List (List Int)} {sp sp' : List (List D)} (hw : wid 3 l) (hw' : wid 3 l') (hlen : l.length = l'.length) (hn : l.length ≤ 9223372036854775807) (Q : Exit → X → Prop) (x : X) (h : sumSameReads l l' sp sp' Q x) : XWP Try.prog (.loop (bodyL Try.f39 0)) Q x := by
  obtain ⟨h1, h2, h3⟩ := h
  refine xwp_roundH (ι := Nat) (H := hkA band bor [] []) (fn := Try.f39) (i := 0) (ts := [0, 1, 4, 5]) (ks := []) (hkl_ok .nil) mixed (loops_nil rfl)
    (fun i => stSameReads (mZ l) sp (mZ l') sp' i false) (fun i => i ≤ l.length ∧ ∀ j, j < i → l.getD j [] = l'.getD j []) (fun i => l.length - i) 0 (vSameReads (mZ l) sp (mZ l') sp') (vSameReads (mZ l) sp (mZ l') sp') (fun i hp => ?_) ⟨Nat.zero_le _, fun j hj => by omega⟩ h1
  obtain ⟨hi, hj⟩ := hp
  show roundA band bor Try.prog _ _ Try.f39 0 _ _ _ _ _ _ _
  rw [eSameReadsr]
  by_cases hl : i < l.length
  · have wi : IntKind.wrap .i64 ((i : Int) + 1) = ((i + 1 : Nat) : Int) := wrap_nat (n := 1) (by omega)
    have hl' : i < l'.length := by omega
    have hj1 : isJ [IntKind.i64, IntKind.i64, IntKind.i64] ((mZ l).getD i []) = true := isJ_mZ (j := 0) (n := 3) hw hl (by omega)
    have hj2 : isJ [IntKind.i64, IntKind.i64, IntKind.i64] ((mZ l').getD i []) = true := isJ_mZ (j := 0) (n := 3) hw' hl' (by omega)
    have he := eqI_beq (l.getD i []) (l'.getD i []) (by rw [wid_get hw hl, wid_get hw' hl'])
    rw [← row3 (wid_get hw hl), ← row3 (wid_get hw' hl')] at he
    simp only [mZ_len, Int.ofNat_lt, hl, hl', decide_true, cond_true, Int.natCast_nonneg, Bool.and_self, Int.toNat_natCast, hdJ_mZt1, hdJ_mZt2, hdJ_mZt3, hj1, hj2, List.drop_zero, hdJ_mZ0, true_and, wi, he]
    rw [row3 (wid_get hw hl), row3 (wid_get hw' hl')]
    by_cases hee : l.getD i [] = l'.getD i []
    · rw [decide_eq_true hee]
      refine ⟨i + 1, by omega, ⟨hl, fun j hji => ?_⟩, rfl⟩
      rcases Nat.lt_succ_iff_lt_or_eq.1 hji with hji | rfl
      · exact hj j hji
      · exact hee
    · rw [decide_eq_false hee]
      exact h3 (fun e => hee (by rw [e])) _
  · have e : i = l.length := by omega
    subst e
    simp only [mZ_len, Int.ofNat_lt, Nat.lt_irrefl, decide_false, cond_false, true_and]
    exact h2 (getD_ext hlen fun j h => hj j h)
theorem cSameReads {l l' : List (List Int)} {sp sp' : List (List D)} (hw : wid 3 l) (hw' : wid 3 l') (hn : l.length ≤ 9223372036854775807) : CT Try.prog 39 [dS 3 (mZ l) sp, dS 3 (mZ l') sp'] (B (decide (l = l'))) := by
  by_cases hlen : l.length = l'.length
  · refine ct_askL (l := []) (m := [(4, sumSameReads l l' sp sp')]) .nil mixed (loops1 rfl (by kernel_rfl) (sameReads_ok hw hw' hlen hn)) Try.func39 rfl rfl rfl ?_
    rw [eSameReads]
    have : (((mZ l).length : Int) != ((mZ l').length : Int)) = false := by simp [mZ_len, hlen]
    rw [this]
    by_cases he : l = l'
    · simp [he]
    · simp [he]
  · refine ct_askL (l := []) (m := [(4, fun _ _ => False)]) .nil mixed (loops1 rfl (by kernel_rfl) (fun _ _ h => h.elim)) Try.func39 rfl rfl rfl ?_
    rw [eSameReads']
    have : (((mZ l).length : Int) != ((mZ l').length : Int)) = true := by simp [mZ_len]; omega
    rw [this]
    have : l ≠ l' := fun e => hlen (by rw [e])
    simp [this]
def sSameReads : Spec := fun ds Q => match ds with | [.c (.s 0 3 R sp), .c (.s 0 3 R' sp')] => cond (okZ 3 R && okZ 3 R') (Q (B (decide (toZ R = toZ R')))) False | _ => False
theorem oSameReads : SpecOK Try.prog 39 sSameReads := o_of Try.func39 (by kernel_rfl) rfl fun ds Q h => by
  unfold sSameReads at h; split at h
  · rename_i R sp R' sp'
    obtain ⟨h1, h2⟩ := cond_P h
    simp only [Bool.and_eq_true] at h1
    obtain ⟨e1, w1, n1⟩ := okZ_spec h1.1
    obtain ⟨e2, w2, n2⟩ := okZ_spec h1.2
    rw [e1, e2]
    rw [toZ_len R |>.symm] at n1
    generalize toZ R = l at *
    generalize toZ R' = l' at *
    exact ⟨_, cSameReads w1 w2 n1, rfl, rfl, h2⟩
  · exact h.elim
def stSpoilReads (n kn : Nat) (i : Int) (W : List (List D)) : X := ⟨mkT 19 [(0, .c (.rs 1000000 0 3 0 n kn)), (2, ai i)], [(1000000, .sl 0 3 W)], []⟩
def vSpoilReads (n kn : Nat) (y : X) : X := stSpoilReads n kn (slotI y 2) (rowsL y 1000000)
theorem eSpoilReadsr (n kn : Nat) (i : Int) (W : List (List D)) (N : X → Prop) (E : Exit → X → Prop) : (roundA band bor Try.prog [] [] Try.f42 0 [0, 2] [1000000] (vSpoilReads n kn) (vSpoilReads n kn) N E (stSpoilReads n kn i W)) = (bif decide (i < @Nat.cast Int _ n) then bif decide (0 ≤ i) && decide (i < @Nat.cast Int _ n) then bif decide (addN (0) (Int.toNat i) < List.length W) then bif isJ [IntKind.i64] (List.drop (1) (List.getD W (addN (0) (Int.toNat i)) [])) then bif decide (0 ≤ i) && decide (i < @Nat.cast Int _ n) then bif decide (addN (0) (Int.toNat i) < List.length W) && decide (1 + 1 ≤ 3) then stSpoilReads n kn (IntKind.wrap IntKind.i64 (i + 1)) (List.set W (addN (0) (Int.toNat i)) (splice (List.getD W (addN (0) (Int.toNat i)) []) (1) [D.v (Value.int IntKind.i64 (bxor (hdJ (List.drop (1) (List.getD W (addN (0) (Int.toNat i)) []))) (90)))])) = stSpoilReads n kn (IntKind.wrap IntKind.i64 (i + 1)) (List.set W (addN (0) (Int.toNat i)) (splice (List.getD W (addN (0) (Int.toNat i)) []) (1) [D.v (Value.int IntKind.i64 (bxor (hdJ (List.drop (1) (List.getD W (addN (0) (Int.toNat i)) []))) (90)))])) ∧ N (stSpoilReads n kn (IntKind.wrap IntKind.i64 (i + 1)) (List.set W (addN (0) (Int.toNat i)) (splice (List.getD W (addN (0) (Int.toNat i)) []) (1) [D.v (Value.int IntKind.i64 (bxor (hdJ (List.drop (1) (List.getD W (addN (0) (Int.toNat i)) []))) (90)))]))) else False else False else False else False else False else stSpoilReads n kn i W = stSpoilReads n kn i W ∧ E (Exit.exit (0)) (stSpoilReads n kn i W)) := by kernel_rfl
-- the spoilt cell
def sumSpoilReads (n kn : Nat) (W0 : List (List D)) : LSum := fun Q y => y.only [0, 2] [1000000] = stSpoilReads n kn 0 W0 ∧ ∀ i W, Q (.exit 0) (stSpoilReads n kn i W)
theorem eSpoilReads (R sp : List (List D)) (K : DV → Prop) : (askL Try.prog [] [(1, sumSpoilReads R.length (R.length + sp.length) (R ++ sp))] Try.f42 [oS 3 R sp] K) = (stSpoilReads (List.length R) (List.length R + List.length sp) (0) (R ++ sp) = stSpoilReads (List.length R) (List.length R + List.length sp) (0) (R ++ sp) ∧ ∀ (i : Int) (W : List (List D)), K (DV.tup [])) := by kernel_rfl
theorem eSpoilReadsn (K : DV → Prop) : (ask Try.prog [] Try.f42 [.c (.v (.slice none 0 0))] K) = (K (DV.tup [])) := by kernel_rfl
theorem spoilReads_ok {n kn : Nat} {l : List (List Int)} (hw : wid 3 l) (hnl : n ≤ l.length) (hn : l.length ≤ 9223372036854775807) (Q : Exit → X → Prop) (x : X) (h : sumSpoilReads n kn (mZ l) Q x) : XWP Try.prog (.loop (bodyL Try.f42 0)) Q x := by
  obtain ⟨h1, h2⟩ := h
  refine xwp_roundH (ι := Nat × List (List Int)) (H := hkA band bor [] []) (fn := Try.f42) (i := 0) (ts := [0, 2]) (ks := [1000000]) (hkl_ok .nil) mixed (loops_nil rfl)
    (fun p => stSpoilReads n kn p.1 (mZ p.2)) (fun p => p.1 ≤ n ∧ wid 3 p.2 ∧ p.2.length = l.length) (fun p => n - p.1) (0, l) (vSpoilReads n kn) (vSpoilReads n kn) (fun p hp => ?_) ⟨Nat.zero_le _, hw, rfl⟩ h1
  obtain ⟨i, m⟩ := p
  obtain ⟨hi, hm, hml⟩ := hp
  simp only at hi hm hml ⊢
  show roundA band bor Try.prog _ _ Try.f42 0 _ _ _ _ _ _ _
  rw [eSpoilReadsr]
  by_cases hl : i < n
  · have wi : IntKind.wrap .i64 ((i : Int) + 1) = ((i + 1 : Nat) : Int) := wrap_nat (n := 1) (by omega)
    have hlm : i < m.length := by omega
    have hj := isJ_mZ1 (j := 1) hm hlm (by omega)
    have hrow := wid_get hm hlm
    have hd1 : (1 + 1 ≤ 3) = True := by simp
    simp only [Int.ofNat_lt, hl, decide_true, cond_true, Int.natCast_nonneg, Bool.and_self, Int.toNat_natCast, addN, mZ_len, hlm, hj, hdJ_mZ, wi, hd1, true_and]
    rw [mZ_getD, splice_vI _ _ _ (by omega), mZ_set]
    exact ⟨(i + 1, _), by simp; omega, ⟨hl, wid_set hm (by rw [List.length_set, hrow]), by rw [List.length_set, hml]⟩, rfl⟩
  · have e : ¬ ((i : Int) < (n : Int)) := by omega
    simp only [e, decide_false, cond_false, true_and]
    exact h2 _ _
def sSpoilReads : Spec := fun ds Q => match ds with
  | [.c (.s 1 3 R sp)] => cond (okZ 3 (R ++ sp)) (Q (.tup [])) False
  | [.c (.v (.slice none 0 0))] => Q (.tup [])
  | _ => False
theorem oSpoilReads : SpecOK Try.prog 42 sSpoilReads := o_of Try.func42 (by kernel_rfl) rfl fun ds Q h => by
  unfold sSpoilReads at h; split at h
  · rename_i R sp
    obtain ⟨h1, h2⟩ := cond_P h
    obtain ⟨e1, w1, n1⟩ := okZ_spec h1
    refine ⟨_, ct_askL (l := []) (m := [(1, sumSpoilReads R.length (R.length + sp.length) (R ++ sp))]) .nil mixed (loops1 rfl (by kernel_rfl) (by rw [e1]; exact spoilReads_ok w1 (by rw [toZ_len]; simp) (by rw [toZ_len]; exact n1))) Try.func42 rfl rfl (by simp [DV.fit32, DV.width]) ?_, rfl, rfl, h2⟩
    rw [eSpoilReads]
    exact ⟨rfl, fun _ _ => rfl⟩
  · refine ⟨_, ct_ask .nil mixed Try.func42 rfl rfl rfl ?_, rfl, rfl, h⟩
    rw [eSpoilReadsn]
  · exact h.elim
theorem eCopyReads (R sp : List (List D)) (K : DV → Prop) : (ask Try.prog [] Try.f69 [dS 3 R sp] K) = (bif allV R then bif true && (decide ((0 + List.length R) * 24 ≤ 140737488355328) && decide (0 + List.length R ≤ 9223372036854775807)) then bif decide (0 + List.length R ≤ List.length ([] ++ R)) && List.all ([] ++ R) fun r => List.all r D.keeps then K (DV.c (D.s (1) (3) (List.take (0 + List.length R) ([] ++ R)) (List.take (0 + List.length R - (0 + List.length R)) (List.drop (0 + List.length R) ([] ++ R))))) else False else False else False) := by kernel_rfl
def sCopyReads : Spec := fun ds Q => match ds with | [.c (.s 0 3 R sp)] => cond (allV R && decide (R.length ≤ 5864062014635)) (Q (.c (.s 1 3 R []))) False | _ => False
theorem oCopyReads : SpecOK Try.prog 69 sCopyReads := o_of Try.func69 (by kernel_rfl) rfl fun ds Q h => by
  unfold sCopyReads at h; split at h
  · rename_i R sp
    obtain ⟨h1, h2⟩ := cond_P h
    simp only [Bool.and_eq_true, decide_eq_true_eq] at h1
    refine ⟨_, ct_ask .nil mixed Try.func69 rfl rfl rfl ?_, by simp [DV.pureOwn, DV.pure1, D.pureOwn, ownLL_of h1.1]; rfl, rfl, h2⟩
    rw [eCopyReads]
    have g1 : (0 + R.length) * 24 ≤ 140737488355328 := by omega
    have g2 : 0 + R.length ≤ 9223372036854775807 := by omega
    simp [h1.1, keeps_of h1.1]
    exact ⟨by omega, by omega⟩
  · exact h.elim
theorem eCloneReads (R sp : List (List D)) (K : DV → Prop) : (ask Try.prog [] Try.f70 [dS 3 R sp] K) = ((bif Nat.beq (List.length R) (OfNat.ofNat (0)) then K (DV.c (D.s (1) (3) [] [])) else True) ∧ bif allV R then bif true && (decide ((0 + List.length R) * 24 ≤ 140737488355328) && decide (0 + List.length R ≤ 9223372036854775807)) then bif decide (0 + List.length R ≤ List.length ([] ++ R)) && List.all ([] ++ R) fun r => List.all r D.keeps then K (DV.c (D.s (1) (3) (List.take (0 + List.length R) ([] ++ R)) (List.take (0 + List.length R - (0 + List.length R)) (List.drop (0 + List.length R) ([] ++ R))))) else False else False else False) := by kernel_rfl
def sCloneReads : Spec := fun ds Q => match ds with | [.c (.s 0 3 R sp)] => cond (allV R && decide (R.length ≤ 5864062014635)) (Q (.c (.s 1 3 R []))) False | _ => False
theorem oCloneReads : SpecOK Try.prog 70 sCloneReads := o_of Try.func70 (by kernel_rfl) rfl fun ds Q h => by
  unfold sCloneReads at h; split at h
  · rename_i R sp
    obtain ⟨h1, h2⟩ := cond_P h
    simp only [Bool.and_eq_true, decide_eq_true_eq] at h1
    refine ⟨_, ct_ask .nil mixed Try.func70 rfl rfl rfl ?_, by simp [DV.pureOwn, DV.pure1, D.pureOwn, ownLL_of h1.1]; rfl, rfl, h2⟩
    rw [eCloneReads]
    have g1 : (0 + R.length) * 24 ≤ 140737488355328 := by omega
    have g2 : 0 + R.length ≤ 9223372036854775807 := by omega
    refine ⟨?_, ?_⟩
    · cases R with
      | nil => exact (rfl : DV.c (D.s 1 3 [] []) = DV.c (D.s 1 3 [] []))
      | cons r R => exact trivial
    · simp [h1.1, keeps_of h1.1]
      exact ⟨by omega, by omega⟩
  · exact h.elim
abbrev markReads : List (List D) := mZ [[0, 77777, 0], [0, 77777, 0]]
theorem eLendReads (R sp : List (List D)) (K : DV → Prop) : (ask Try.prog [(69, sCopyReads)] Try.f32 [dS 3 R sp] K) = (bif allV R && decide (List.length R ≤ 5864062014635) then bif decide (List.length R ≤ List.length (R ++ [])) && (decide ((List.length R + 2) * 24 ≤ 140737488355328) && decide (List.length R + 2 ≤ 9223372036854775807)) then bif true && (decide (0 ≤ @Nat.cast Int _ (List.length R)) && decide (@Nat.cast Int _ (List.length R) ≤ @Nat.cast Int _ (List.length R + 2))) then bif decide (Int.toNat (@Nat.cast Int _ (List.length R)) - 0 ≤ List.length (List.take (List.length R) (R ++ []) ++ [[D.v (Value.int IntKind.i64 (0)), D.v (Value.int IntKind.i64 (77777)), D.v (Value.int IntKind.i64 (0))], [D.v (Value.int IntKind.i64 (0)), D.v (Value.int IntKind.i64 (77777)), D.v (Value.int IntKind.i64 (0))]])) && List.all (List.take (List.length R) (R ++ []) ++ [[D.v (Value.int IntKind.i64 (0)), D.v (Value.int IntKind.i64 (77777)), D.v (Value.int IntKind.i64 (0))], [D.v (Value.int IntKind.i64 (0)), D.v (Value.int IntKind.i64 (77777)), D.v (Value.int IntKind.i64 (0))]]) fun r => List.all r D.keeps then K (DV.c (D.s (1) (3) (List.take (Int.toNat (@Nat.cast Int _ (List.length R)) - 0) (List.take (List.length R) (R ++ []) ++ [[D.v (Value.int IntKind.i64 (0)), D.v (Value.int IntKind.i64 (77777)), D.v (Value.int IntKind.i64 (0))], [D.v (Value.int IntKind.i64 (0)), D.v (Value.int IntKind.i64 (77777)), D.v (Value.int IntKind.i64 (0))]])) (List.take (List.length R + 2 - 0 - (Int.toNat (@Nat.cast Int _ (List.length R)) - 0)) (List.drop (Int.toNat (@Nat.cast Int _ (List.length R)) - 0) (List.take (List.length R) (R ++ []) ++ [[D.v (Value.int IntKind.i64 (0)), D.v (Value.int IntKind.i64 (77777)), D.v (Value.int IntKind.i64 (0))], [D.v (Value.int IntKind.i64 (0)), D.v (Value.int IntKind.i64 (77777)), D.v (Value.int IntKind.i64 (0))]]))))) else False else False else False else False) := by kernel_rfl
def sLendReads : Spec := fun ds Q => match ds with | [.c (.s 0 3 R sp)] => cond (allV R && decide (R.length ≤ 5864062014635)) (Q (.c (.s 1 3 R markReads))) False | _ => False
theorem cLendReads {R sp : List (List D)} (hR : allV R = true) (hl : R.length ≤ 5864062014635) : CT Try.prog 32 [dS 3 R sp] (.c (.s 1 3 R markReads)) := by
  refine ct_ask (.cons oCopyReads .nil) mixed Try.func32 rfl rfl rfl ?_
  rw [eLendReads]
  have g1 : (R.length + 2) * 24 ≤ 140737488355328 := by omega
  have g2 : R.length + 2 ≤ 9223372036854775807 := by omega
  have g3 : ((R.length : Nat) : Int) ≤ ((R.length + 2 : Nat) : Int) := by omega
  simp only [hR, hl, g1, g2, g3, decide_true, Bool.and_self, cond_true, Bool.true_and, Int.natCast_nonneg, Int.toNat_natCast, Nat.sub_zero, List.append_nil, Nat.le_refl, List.length_append, List.length_cons, List.length_nil, Nat.zero_add, Nat.le_add_right, List.take_left, List.drop_left, Nat.add_sub_cancel_left, Bool.and_true, List.take_length]
  have hk : ∀ M : List (List D), M = R ++ markReads → (M.all fun r => r.all D.keeps) = true := fun M hM => by rw [hM]; exact keeps_of (by rw [allV_app, hR]; rfl)
  rw [hk (R ++ [[vI 0, vI 77777, vI 0], [vI 0, vI 77777, vI 0]]) rfl]
  exact (rfl : DV.c (D.s 1 3 R markReads) = DV.c (D.s 1 3 R markReads))
theorem oLendReads : SpecOK Try.prog 32 sLendReads := o_of Try.func32 (by kernel_rfl) rfl fun ds Q h => by
  unfold sLendReads at h; split at h
  · obtain ⟨h1, h2⟩ := cond_P h
    simp only [Bool.and_eq_true, decide_eq_true_eq] at h1
    exact ⟨_, cLendReads h1.1 h1.2, by simp [DV.pureOwn, DV.pure1, D.pureOwn, ownLL_of h1.1, ownLL_mZ], rfl, h2⟩
  · exact h.elim
theorem eKeptReads (R sp : List (List D)) (K : DV → Prop) : (ask Try.prog [(39, sSameReads)] Try.f43 [dS 3 R [[vI 0, vI 77777, vI 0], [vI 0, vI 77777, vI 0]], dS 3 R sp] K) = (bif true && (decide (0 ≤ IntKind.wrap IntKind.i64 (@Nat.cast Int _ (List.length R) + 2)) && decide (IntKind.wrap IntKind.i64 (@Nat.cast Int _ (List.length R) + 2) ≤ @Nat.cast Int _ (List.length R + 2))) then bif okZ (3) R && okZ (3) R then bif decide (toZ R = toZ R) then bif decide (0 ≤ @Nat.cast Int _ (List.length R)) && decide (@Nat.cast Int _ (List.length R) < @Nat.cast Int _ (List.length (cut (R ++ [[D.v (Value.int IntKind.i64 (0)), D.v (Value.int IntKind.i64 (77777)), D.v (Value.int IntKind.i64 (0))], [D.v (Value.int IntKind.i64 (0)), D.v (Value.int IntKind.i64 (77777)), D.v (Value.int IntKind.i64 (0))]]) (0) (Int.toNat (IntKind.wrap IntKind.i64 (@Nat.cast Int _ (List.length R) + 2)) - 0)))) then bif isJ [IntKind.i64, IntKind.i64, IntKind.i64] (List.drop (0) (List.getD (cut (R ++ [[D.v (Value.int IntKind.i64 (0)), D.v (Value.int IntKind.i64 (77777)), D.v (Value.int IntKind.i64 (0))], [D.v (Value.int IntKind.i64 (0)), D.v (Value.int IntKind.i64 (77777)), D.v (Value.int IntKind.i64 (0))]]) (0) (Int.toNat (IntKind.wrap IntKind.i64 (@Nat.cast Int _ (List.length R) + 2)) - 0)) (Int.toNat (@Nat.cast Int _ (List.length R))) [])) then bif eqI [hdJ (List.drop (0) (List.getD (cut (R ++ [[D.v (Value.int IntKind.i64 (0)), D.v (Value.int IntKind.i64 (77777)), D.v (Value.int IntKind.i64 (0))], [D.v (Value.int IntKind.i64 (0)), D.v (Value.int IntKind.i64 (77777)), D.v (Value.int IntKind.i64 (0))]]) (0) (Int.toNat (IntKind.wrap IntKind.i64 (@Nat.cast Int _ (List.length R) + 2)) - 0)) (Int.toNat (@Nat.cast Int _ (List.length R))) [])), hdJ (List.tail (List.drop (0) (List.getD (cut (R ++ [[D.v (Value.int IntKind.i64 (0)), D.v (Value.int IntKind.i64 (77777)), D.v (Value.int IntKind.i64 (0))], [D.v (Value.int IntKind.i64 (0)), D.v (Value.int IntKind.i64 (77777)), D.v (Value.int IntKind.i64 (0))]]) (0) (Int.toNat (IntKind.wrap IntKind.i64 (@Nat.cast Int _ (List.length R) + 2)) - 0)) (Int.toNat (@Nat.cast Int _ (List.length R))) []))), hdJ (List.tail (List.tail (List.drop (0) (List.getD (cut (R ++ [[D.v (Value.int IntKind.i64 (0)), D.v (Value.int IntKind.i64 (77777)), D.v (Value.int IntKind.i64 (0))], [D.v (Value.int IntKind.i64 (0)), D.v (Value.int IntKind.i64 (77777)), D.v (Value.int IntKind.i64 (0))]]) (0) (Int.toNat (IntKind.wrap IntKind.i64 (@Nat.cast Int _ (List.length R) + 2)) - 0)) (Int.toNat (@Nat.cast Int _ (List.length R))) []))))] [0, 77777, 0] then bif decide (0 ≤ IntKind.wrap IntKind.i64 (@Nat.cast Int _ (List.length R) + 1)) && decide (IntKind.wrap IntKind.i64 (@Nat.cast Int _ (List.length R) + 1) < @Nat.cast Int _ (List.length (cut (R ++ [[D.v (Value.int IntKind.i64 (0)), D.v (Value.int IntKind.i64 (77777)), D.v (Value.int IntKind.i64 (0))], [D.v (Value.int IntKind.i64 (0)), D.v (Value.int IntKind.i64 (77777)), D.v (Value.int IntKind.i64 (0))]]) (0) (Int.toNat (IntKind.wrap IntKind.i64 (@Nat.cast Int _ (List.length R) + 2)) - 0)))) then bif isJ [IntKind.i64, IntKind.i64, IntKind.i64] (List.drop (0) (List.getD (cut (R ++ [[D.v (Value.int IntKind.i64 (0)), D.v (Value.int IntKind.i64 (77777)), D.v (Value.int IntKind.i64 (0))], [D.v (Value.int IntKind.i64 (0)), D.v (Value.int IntKind.i64 (77777)), D.v (Value.int IntKind.i64 (0))]]) (0) (Int.toNat (IntKind.wrap IntKind.i64 (@Nat.cast Int _ (List.length R) + 2)) - 0)) (Int.toNat (IntKind.wrap IntKind.i64 (@Nat.cast Int _ (List.length R) + 1))) [])) then K (DV.c (D.v (Value.bool (eqI [hdJ (List.drop (0) (List.getD (cut (R ++ [[D.v (Value.int IntKind.i64 (0)), D.v (Value.int IntKind.i64 (77777)), D.v (Value.int IntKind.i64 (0))], [D.v (Value.int IntKind.i64 (0)), D.v (Value.int IntKind.i64 (77777)), D.v (Value.int IntKind.i64 (0))]]) (0) (Int.toNat (IntKind.wrap IntKind.i64 (@Nat.cast Int _ (List.length R) + 2)) - 0)) (Int.toNat (IntKind.wrap IntKind.i64 (@Nat.cast Int _ (List.length R) + 1))) [])), hdJ (List.tail (List.drop (0) (List.getD (cut (R ++ [[D.v (Value.int IntKind.i64 (0)), D.v (Value.int IntKind.i64 (77777)), D.v (Value.int IntKind.i64 (0))], [D.v (Value.int IntKind.i64 (0)), D.v (Value.int IntKind.i64 (77777)), D.v (Value.int IntKind.i64 (0))]]) (0) (Int.toNat (IntKind.wrap IntKind.i64 (@Nat.cast Int _ (List.length R) + 2)) - 0)) (Int.toNat (IntKind.wrap IntKind.i64 (@Nat.cast Int _ (List.length R) + 1))) []))), hdJ (List.tail (List.tail (List.drop (0) (List.getD (cut (R ++ [[D.v (Value.int IntKind.i64 (0)), D.v (Value.int IntKind.i64 (77777)), D.v (Value.int IntKind.i64 (0))], [D.v (Value.int IntKind.i64 (0)), D.v (Value.int IntKind.i64 (77777)), D.v (Value.int IntKind.i64 (0))]]) (0) (Int.toNat (IntKind.wrap IntKind.i64 (@Nat.cast Int _ (List.length R) + 2)) - 0)) (Int.toNat (IntKind.wrap IntKind.i64 (@Nat.cast Int _ (List.length R) + 1))) []))))] [0, 77777, 0])))) else False else False else K (DV.c (D.v (Value.bool false))) else False else False else K (DV.c (D.v (Value.bool false))) else False else False) := by kernel_rfl
def sKeptReads : Spec := fun ds Q => match ds with
  | [.c (.s 0 3 R sp), .c (.s 0 3 R' sp')] => (okZ 3 R = true ∧ R.length ≤ 5864062014635 ∧ R' = R ∧ sp = markReads) ∧ Q (B true)
  | _ => False
theorem cKeptReads {R sp : List (List D)} (hR : okZ 3 R = true) (hl : R.length ≤ 5864062014635) : CT Try.prog 43 [dS 3 R [[vI 0, vI 77777, vI 0], [vI 0, vI 77777, vI 0]], dS 3 R sp] (B true) := by
  refine ct_ask (.cons oSameReads .nil) mixed Try.func43 rfl rfl rfl ?_
  rw [eKeptReads]
  have w1 : IntKind.wrap .i64 ((R.length : Int) + 1) = ((R.length + 1 : Nat) : Int) := wrap_nat (n := 1) (by omega)
  have w2 : IntKind.wrap .i64 ((R.length : Int) + 2) = ((R.length + 2 : Nat) : Int) := wrap_nat (n := 2) (by omega)
  have hc : cut (R ++ [[vI 0, vI 77777, vI 0], [vI 0, vI 77777, vI 0]]) 0 (R.length + 2) = R ++ [[vI 0, vI 77777, vI 0], [vI 0, vI 77777, vI 0]] := by
    simp only [cut, List.drop_zero]
    exact List.take_of_length_le (by simp)
  have g1 : (R ++ [[vI 0, vI 77777, vI 0], [vI 0, vI 77777, vI 0]]).getD R.length [] = [vI 0, vI 77777, vI 0] := by simp [List.getD_eq_getElem?_getD]
  have g2 : (R ++ [[vI 0, vI 77777, vI 0], [vI 0, vI 77777, vI 0]]).getD (R.length + 1) [] = [vI 0, vI 77777, vI 0] := by
    rw [List.getD_eq_getElem?_getD, List.getElem?_append_right (by omega)]
    simp
  have hle : (R ++ [[vI 0, vI 77777, vI 0], [vI 0, vI 77777, vI 0]]).length = R.length + 2 := by simp
  have l1 : (R.length : Int) < ((R.length + 2 : Nat) : Int) := by omega
  have l2 : ((R.length + 1 : Nat) : Int) < ((R.length + 2 : Nat) : Int) := by omega
  simp only [w1, w2, Int.natCast_nonneg, Int.toNat_natCast, Nat.sub_zero, hc, hle, l1, l2, g1, g2, hR, decide_true, Bool.and_self, cond_true, List.drop_zero, Int.le_refl, Bool.true_and]
  exact (rfl : B true = B true)
theorem oKeptReads : SpecOK Try.prog 43 sKeptReads := o_of Try.func43 (by kernel_rfl) rfl fun ds Q h => by
  unfold sKeptReads at h; split at h
  · obtain ⟨⟨hR, hl, e1, e2⟩, h3⟩ := h
    subst e1 e2
    exact ⟨_, cKeptReads hR hl, rfl, rfl, h3⟩
  · exact h.elim
/-! ### rows of Writes -/
def stSameWrites (R sp R' sp' : List (List D)) (i : Int) (p : Bool) : X := ⟨mkT 26 [(0, aS 3 R sp), (1, aS 3 R' sp'), (4, ab p), (5, ai i)], [], []⟩
def vSameWrites (R sp R' sp' : List (List D)) (y : X) : X := stSameWrites R sp R' sp' (slotI y 5) (slotB y 4)
theorem eSameWritesr (R sp R' sp' : List (List D)) (i : Int) (p : Bool) (N : X → Prop) (E : Exit → X → Prop) : (roundA band bor Try.prog [] [] Try.f50 0 [0, 1, 4, 5] [] (vSameWrites R sp R' sp') (vSameWrites R sp R' sp') N E (stSameWrites R sp R' sp' i p)) = (bif decide (i < @Nat.cast Int _ (List.length R)) then bif decide (0 ≤ i) && decide (i < @Nat.cast Int _ (List.length R)) then bif isJ [IntKind.i64, IntKind.i64, IntKind.i64] (List.drop (0) (List.getD R (Int.toNat i) [])) then bif decide (0 ≤ i) && decide (i < @Nat.cast Int _ (List.length R')) then bif isJ [IntKind.i64, IntKind.i64, IntKind.i64] (List.drop (0) (List.getD R' (Int.toNat i) [])) then bif !eqI [hdJ (List.drop (0) (List.getD R (Int.toNat i) [])), hdJ (List.tail (List.drop (0) (List.getD R (Int.toNat i) []))), hdJ (List.tail (List.tail (List.drop (0) (List.getD R (Int.toNat i) []))))] [hdJ (List.drop (0) (List.getD R' (Int.toNat i) [])), hdJ (List.tail (List.drop (0) (List.getD R' (Int.toNat i) []))), hdJ (List.tail (List.tail (List.drop (0) (List.getD R' (Int.toNat i) []))))] then stSameWrites R sp R' sp' i false = stSameWrites R sp R' sp' i false ∧ E Exit.ret (stSameWrites R sp R' sp' i false) else stSameWrites R sp R' sp' (IntKind.wrap IntKind.i64 (i + 1)) p = stSameWrites R sp R' sp' (IntKind.wrap IntKind.i64 (i + 1)) p ∧ N (stSameWrites R sp R' sp' (IntKind.wrap IntKind.i64 (i + 1)) p) else False else False else False else False else stSameWrites R sp R' sp' i p = stSameWrites R sp R' sp' i p ∧ E (Exit.exit (0)) (stSameWrites R sp R' sp' i p)) := by kernel_rfl
def sumSameWrites (l l' : List (List Int)) (sp sp' : List (List D)) : LSum := fun Q x => x.only [0, 1, 4, 5] [] = stSameWrites (mZ l) sp (mZ l') sp' 0 false ∧ (l = l' → Q (.exit 0) (stSameWrites (mZ l) sp (mZ l') sp' l.length false)) ∧ (l ≠ l' → ∀ i : Int, Q .ret (stSameWrites (mZ l) sp (mZ l') sp' i false))
theorem eSameWrites (l l' : List (List Int)) (sp sp' : List (List D)) (K : DV → Prop) : (askL Try.prog [] [(4, sumSameWrites l l' sp sp')] Try.f50 [dS 3 (mZ l) sp, dS 3 (mZ l') sp'] K) = (bif @Nat.cast Int _ (List.length (mZ l)) != @Nat.cast Int _ (List.length (mZ l')) then K (DV.c (D.v (Value.bool false))) else stSameWrites (mZ l) sp (mZ l') sp' (0) false = stSameWrites (mZ l) sp (mZ l') sp' (0) false ∧ (l = l' → K (DV.c (D.v (Value.bool true)))) ∧ (l ≠ l' → ∀ (i : Int), K (DV.c (D.v (Value.bool false))))) := by kernel_rfl
theorem eSameWrites' (l l' : List (List Int)) (sp sp' : List (List D)) (K : DV → Prop) : (askL Try.prog [] [(4, fun _ _ => False)] Try.f50 [dS 3 (mZ l) sp, dS 3 (mZ l') sp'] K) = (bif @Nat.cast Int _ (List.length (mZ l)) != @Nat.cast Int _ (List.length (mZ l')) then K (DV.c (D.v (Value.bool false))) else False) := by kernel_rfl
theorem sameWrites_ok {l l' : List (List Int)} {sp sp' : List (List D)} (hw : wid 3 l) (hw' : wid 3 l') (hlen : l.length = l'.length) (hn : l.length ≤ 9223372036854775807) (Q : Exit → X → Prop) (x : X) (h : sumSameWrites l l' sp sp' Q x) : XWP Try.prog (.loop (bodyL Try.f50 0)) Q x := by
  obtain ⟨h1, h2, h3⟩ := h
  refine xwp_roundH (ι := Nat) (H := hkA band bor [] []) (fn := Try.f50) (i := 0) (ts := [0, 1, 4, 5]) (ks := []) (hkl_ok .nil) mixed (loops_nil rfl)
    (fun i => stSameWrites (mZ l) sp (mZ l') sp' i false) (fun i => i ≤ l.length ∧ ∀ j, j < i → l.getD j [] = l'.getD j []) (fun i => l.length - i) 0 (vSameWrites (mZ l) sp (mZ l') sp') (vSameWrites (mZ l) sp (mZ l') sp') (fun i hp => ?_) ⟨Nat.zero_le _, fun j hj => by omega⟩ h1
  obtain ⟨hi, hj⟩ := hp
  show roundA band bor Try.prog _ _ Try.f50 0 _ _ _ _ _ _ _
  rw [eSameWritesr]
  by_cases hl : i < l.length
  · have wi : IntKind.wrap .i64 ((i : Int) + 1) = ((i + 1 : Nat) : Int) := wrap_nat (n := 1) (by omega)
    have hl' : i < l'.length := by omega
    have hj1 : isJ [IntKind.i64, IntKind.i64, IntKind.i64] ((mZ l).getD i []) = true := isJ_mZ (j := 0) (n := 3) hw hl (by omega)
    have hj2 : isJ [IntKind.i64, IntKind.i64, IntKind.i64] ((mZ l').getD i []) = true := isJ_mZ (j := 0) (n := 3) hw' hl' (by omega)
    have he := eqI_beq (l.getD i []) (l'.getD i []) (by rw [wid_get hw hl, wid_get hw' hl'])
    rw [← row3 (wid_get hw hl), ← row3 (wid_get hw' hl')] at he
    simp only [mZ_len, Int.ofNat_lt, hl, hl', decide_true, cond_true, Int.natCast_nonneg, Bool.and_self, Int.toNat_natCast, hdJ_mZt1, hdJ_mZt2, hdJ_mZt3, hj1, hj2, List.drop_zero, hdJ_mZ0, true_and, wi, he]
    rw [row3 (wid_get hw hl), row3 (wid_get hw' hl')]
    by_cases hee : l.getD i [] = l'.getD i []
    · rw [decide_eq_true hee]
      refine ⟨i + 1, by omega, ⟨hl, fun j hji => ?_⟩, rfl⟩
      rcases Nat.lt_succ_iff_lt_or_eq.1 hji with hji | rfl
      · exact hj j hji
      · exact hee
    · rw [decide_eq_false hee]
      exact h3 (fun e => hee (by rw [e])) _
  · have e : i = l.length := by omega
    subst e
    simp only [mZ_len, Int.ofNat_lt, Nat.lt_irrefl, decide_false, cond_false, true_and]
    exact h2 (getD_ext hlen fun j h => hj j h)
theorem cSameWrites {l l' : List (List Int)} {sp sp' : List (List D)} (hw : wid 3 l) (hw' : wid 3 l') (hn : l.length ≤ 9223372036854775807) : CT Try.prog 50 [dS 3 (mZ l) sp, dS 3 (mZ l') sp'] (B (decide (l = l'))) := by
  by_cases hlen : l.length = l'.length
  · refine ct_askL (l := []) (m := [(4, sumSameWrites l l' sp sp')]) .nil mixed (loops1 rfl (by kernel_rfl) (sameWrites_ok hw hw' hlen hn)) Try.func50 rfl rfl rfl ?_
    rw [eSameWrites]
    have : (((mZ l).length : Int) != ((mZ l').length : Int)) = false := by simp [mZ_len, hlen]
    rw [this]
    by_cases he : l = l'
    · simp [he]
    · simp [he]
  · refine ct_askL (l := []) (m := [(4, fun _ _ => False)]) .nil mixed (loops1 rfl (by kernel_rfl) (fun _ _ h => h.elim)) Try.func50 rfl rfl rfl ?_
    rw [eSameWrites']
    have : (((mZ l).length : Int) != ((mZ l').length : Int)) = true := by simp [mZ_len]; omega
    rw [this]
    have : l ≠ l' := fun e => hlen (by rw [e])
    simp [this]
def sSameWrites : Spec := fun ds Q => match ds with | [.c (.s 0 3 R sp), .c (.s 0 3 R' sp')] => cond (okZ 3 R && okZ 3 R') (Q (B (decide (toZ R = toZ R')))) False | _ => False
theorem oSameWrites : SpecOK Try.prog 50 sSameWrites := o_of Try.func50 (by kernel_rfl) rfl fun ds Q h => by
  unfold sSameWrites at h; split at h
  · rename_i R sp R' sp'
    obtain ⟨h1, h2⟩ := cond_P h
    simp only [Bool.and_eq_true] at h1
    obtain ⟨e1, w1, n1⟩ := okZ_spec h1.1
    obtain ⟨e2, w2, n2⟩ := okZ_spec h1.2
    rw [e1, e2]
    rw [toZ_len R |>.symm] at n1
    generalize toZ R = l at *
    generalize toZ R' = l' at *
    exact ⟨_, cSameWrites w1 w2 n1, rfl, rfl, h2⟩
  · exact h.elim
def stSpoilWrites (n kn : Nat) (i : Int) (W : List (List D)) : X := ⟨mkT 19 [(0, .c (.rs 1000000 0 3 0 n kn)), (2, ai i)], [(1000000, .sl 0 3 W)], []⟩
def vSpoilWrites (n kn : Nat) (y : X) : X := stSpoilWrites n kn (slotI y 2) (rowsL y 1000000)
theorem eSpoilWritesr (n kn : Nat) (i : Int) (W : List (List D)) (N : X → Prop) (E : Exit → X → Prop) : (roundA band bor Try.prog [] [] Try.f55 0 [0, 2] [1000000] (vSpoilWrites n kn) (vSpoilWrites n kn) N E (stSpoilWrites n kn i W)) = (bif decide (i < @Nat.cast Int _ n) then bif decide (0 ≤ i) && decide (i < @Nat.cast Int _ n) then bif decide (addN (0) (Int.toNat i) < List.length W) then bif isJ [IntKind.i64] (List.drop (1) (List.getD W (addN (0) (Int.toNat i)) [])) then bif decide (0 ≤ i) && decide (i < @Nat.cast Int _ n) then bif decide (addN (0) (Int.toNat i) < List.length W) && decide (1 + 1 ≤ 3) then stSpoilWrites n kn (IntKind.wrap IntKind.i64 (i + 1)) (List.set W (addN (0) (Int.toNat i)) (splice (List.getD W (addN (0) (Int.toNat i)) []) (1) [D.v (Value.int IntKind.i64 (bxor (hdJ (List.drop (1) (List.getD W (addN (0) (Int.toNat i)) []))) (90)))])) = stSpoilWrites n kn (IntKind.wrap IntKind.i64 (i + 1)) (List.set W (addN (0) (Int.toNat i)) (splice (List.getD W (addN (0) (Int.toNat i)) []) (1) [D.v (Value.int IntKind.i64 (bxor (hdJ (List.drop (1) (List.getD W (addN (0) (Int.toNat i)) []))) (90)))])) ∧ N (stSpoilWrites n kn (IntKind.wrap IntKind.i64 (i + 1)) (List.set W (addN (0) (Int.toNat i)) (splice (List.getD W (addN (0) (Int.toNat i)) []) (1) [D.v (Value.int IntKind.i64 (bxor (hdJ (List.drop (1) (List.getD W (addN (0) (Int.toNat i)) []))) (90)))]))) else False else False else False else False else False else stSpoilWrites n kn i W = stSpoilWrites n kn i W ∧ E (Exit.exit (0)) (stSpoilWrites n kn i W)) := by kernel_rfl
-- the spoilt cell
def sumSpoilWrites (n kn : Nat) (W0 : List (List D)) : LSum := fun Q y => y.only [0, 2] [1000000] = stSpoilWrites n kn 0 W0 ∧ ∀ i W, Q (.exit 0) (stSpoilWrites n kn i W)
theorem eSpoilWrites (R sp : List (List D)) (K : DV → Prop) : (askL Try.prog [] [(1, sumSpoilWrites R.length (R.length + sp.length) (R ++ sp))] Try.f55 [oS 3 R sp] K) = (stSpoilWrites (List.length R) (List.length R + List.length sp) (0) (R ++ sp) = stSpoilWrites (List.length R) (List.length R + List.length sp) (0) (R ++ sp) ∧ ∀ (i : Int) (W : List (List D)), K (DV.tup [])) := by kernel_rfl
theorem eSpoilWritesn (K : DV → Prop) : (ask Try.prog [] Try.f55 [.c (.v (.slice none 0 0))] K) = (K (DV.tup [])) := by kernel_rfl
theorem spoilWrites_ok {n kn : Nat} {l : List (List Int)} (hw : wid 3 l) (hnl : n ≤ l.length) (hn : l.length ≤ 9223372036854775807) (Q : Exit → X → Prop) (x : X) (h : sumSpoilWrites n kn (mZ l) Q x) : XWP Try.prog (.loop (bodyL Try.f55 0)) Q x := by
  obtain ⟨h1, h2⟩ := h
  refine xwp_roundH (ι := Nat × List (List Int)) (H := hkA band bor [] []) (fn := Try.f55) (i := 0) (ts := [0, 2]) (ks := [1000000]) (hkl_ok .nil) mixed (loops_nil rfl)
    (fun p => stSpoilWrites n kn p.1 (mZ p.2)) (fun p => p.1 ≤ n ∧ wid 3 p.2 ∧ p.2.length = l.length) (fun p => n - p.1) (0, l) (vSpoilWrites n kn) (vSpoilWrites n kn) (fun p hp => ?_) ⟨Nat.zero_le _, hw, rfl⟩ h1
  obtain ⟨i, m⟩ := p
  obtain ⟨hi, hm, hml⟩ := hp
  simp only at hi hm hml ⊢
  show roundA band bor Try.prog _ _ Try.f55 0 _ _ _ _ _ _ _
  rw [eSpoilWritesr]
  by_cases hl : i < n
  · have wi : IntKind.wrap .i64 ((i : Int) + 1) = ((i + 1 : Nat) : Int) := wrap_nat (n := 1) (by omega)
    have hlm : i < m.length := by omega
    have hj := isJ_mZ1 (j := 1) hm hlm (by omega)
    have hrow := wid_get hm hlm
    have hd1 : (1 + 1 ≤ 3) = True := by simp
    simp only [Int.ofNat_lt, hl, decide_true, cond_true, Int.natCast_nonneg, Bool.and_self, Int.toNat_natCast, addN, mZ_len, hlm, hj, hdJ_mZ, wi, hd1, true_and]
    rw [mZ_getD, splice_vI _ _ _ (by omega), mZ_set]
    exact ⟨(i + 1, _), by simp; omega, ⟨hl, wid_set hm (by rw [List.length_set, hrow]), by rw [List.length_set, hml]⟩, rfl⟩
  · have e : ¬ ((i : Int) < (n : Int)) := by omega
    simp only [e, decide_false, cond_false, true_and]
    exact h2 _ _
def sSpoilWrites : Spec := fun ds Q => match ds with
  | [.c (.s 1 3 R sp)] => cond (okZ 3 (R ++ sp)) (Q (.tup [])) False
  | [.c (.v (.slice none 0 0))] => Q (.tup [])
  | _ => False
theorem oSpoilWrites : SpecOK Try.prog 55 sSpoilWrites := o_of Try.func55 (by kernel_rfl) rfl fun ds Q h => by
  unfold sSpoilWrites at h; split at h
  · rename_i R sp
    obtain ⟨h1, h2⟩ := cond_P h
    obtain ⟨e1, w1, n1⟩ := okZ_spec h1
    refine ⟨_, ct_askL (l := []) (m := [(1, sumSpoilWrites R.length (R.length + sp.length) (R ++ sp))]) .nil mixed (loops1 rfl (by kernel_rfl) (by rw [e1]; exact spoilWrites_ok w1 (by rw [toZ_len]; simp) (by rw [toZ_len]; exact n1))) Try.func55 rfl rfl (by simp [DV.fit32, DV.width]) ?_, rfl, rfl, h2⟩
    rw [eSpoilWrites]
    exact ⟨rfl, fun _ _ => rfl⟩
  · refine ⟨_, ct_ask .nil mixed Try.func55 rfl rfl rfl ?_, rfl, rfl, h⟩
    rw [eSpoilWritesn]
  · exact h.elim
theorem eCopyWrites (R sp : List (List D)) (K : DV → Prop) : (ask Try.prog [] Try.f82 [dS 3 R sp] K) = (bif allV R then bif true && (decide ((0 + List.length R) * 24 ≤ 140737488355328) && decide (0 + List.length R ≤ 9223372036854775807)) then bif decide (0 + List.length R ≤ List.length ([] ++ R)) && List.all ([] ++ R) fun r => List.all r D.keeps then K (DV.c (D.s (1) (3) (List.take (0 + List.length R) ([] ++ R)) (List.take (0 + List.length R - (0 + List.length R)) (List.drop (0 + List.length R) ([] ++ R))))) else False else False else False) := by kernel_rfl
def sCopyWrites : Spec := fun ds Q => match ds with | [.c (.s 0 3 R sp)] => cond (allV R && decide (R.length ≤ 5864062014635)) (Q (.c (.s 1 3 R []))) False | _ => False
theorem oCopyWrites : SpecOK Try.prog 82 sCopyWrites := o_of Try.func82 (by kernel_rfl) rfl fun ds Q h => by
  unfold sCopyWrites at h; split at h
  · rename_i R sp
    obtain ⟨h1, h2⟩ := cond_P h
    simp only [Bool.and_eq_true, decide_eq_true_eq] at h1
    refine ⟨_, ct_ask .nil mixed Try.func82 rfl rfl rfl ?_, by simp [DV.pureOwn, DV.pure1, D.pureOwn, ownLL_of h1.1]; rfl, rfl, h2⟩
    rw [eCopyWrites]
    have g1 : (0 + R.length) * 24 ≤ 140737488355328 := by omega
    have g2 : 0 + R.length ≤ 9223372036854775807 := by omega
    simp [h1.1, keeps_of h1.1]
    exact ⟨by omega, by omega⟩
  · exact h.elim
theorem eCloneWrites (R sp : List (List D)) (K : DV → Prop) : (ask Try.prog [] Try.f83 [dS 3 R sp] K) = ((bif Nat.beq (List.length R) (OfNat.ofNat (0)) then K (DV.c (D.s (1) (3) [] [])) else True) ∧ bif allV R then bif true && (decide ((0 + List.length R) * 24 ≤ 140737488355328) && decide (0 + List.length R ≤ 9223372036854775807)) then bif decide (0 + List.length R ≤ List.length ([] ++ R)) && List.all ([] ++ R) fun r => List.all r D.keeps then K (DV.c (D.s (1) (3) (List.take (0 + List.length R) ([] ++ R)) (List.take (0 + List.length R - (0 + List.length R)) (List.drop (0 + List.length R) ([] ++ R))))) else False else False else False) := by kernel_rfl
def sCloneWrites : Spec := fun ds Q => match ds with | [.c (.s 0 3 R sp)] => cond (allV R && decide (R.length ≤ 5864062014635)) (Q (.c (.s 1 3 R []))) False | _ => False
theorem oCloneWrites : SpecOK Try.prog 83 sCloneWrites := o_of Try.func83 (by kernel_rfl) rfl fun ds Q h => by
  unfold sCloneWrites at h; split at h
  · rename_i R sp
    obtain ⟨h1, h2⟩ := cond_P h
    simp only [Bool.and_eq_true, decide_eq_true_eq] at h1
    refine ⟨_, ct_ask .nil mixed Try.func83 rfl rfl rfl ?_, by simp [DV.pureOwn, DV.pure1, D.pureOwn, ownLL_of h1.1]; rfl, rfl, h2⟩
    rw [eCloneWrites]
    have g1 : (0 + R.length) * 24 ≤ 140737488355328 := by omega
    have g2 : 0 + R.length ≤ 9223372036854775807 := by omega
    refine ⟨?_, ?_⟩
    · cases R with
      | nil => exact (rfl : DV.c (D.s 1 3 [] []) = DV.c (D.s 1 3 [] []))
      | cons r R => exact trivial
    · simp [h1.1, keeps_of h1.1]
      exact ⟨by omega, by omega⟩
  · exact h.elim
abbrev markWrites : List (List D) := mZ [[0, 77777, 0], [0, 77777, 0]]
theorem eLendWrites (R sp : List (List D)) (K : DV → Prop) : (ask Try.prog [(82, sCopyWrites)] Try.f45 [dS 3 R sp] K) = (bif allV R && decide (List.length R ≤ 5864062014635) then bif decide (List.length R ≤ List.length (R ++ [])) && (decide ((List.length R + 2) * 24 ≤ 140737488355328) && decide (List.length R + 2 ≤ 9223372036854775807)) then bif true && (decide (0 ≤ @Nat.cast Int _ (List.length R)) && decide (@Nat.cast Int _ (List.length R) ≤ @Nat.cast Int _ (List.length R + 2))) then bif decide (Int.toNat (@Nat.cast Int _ (List.length R)) - 0 ≤ List.length (List.take (List.length R) (R ++ []) ++ [[D.v (Value.int IntKind.i64 (0)), D.v (Value.int IntKind.i64 (77777)), D.v (Value.int IntKind.i64 (0))], [D.v (Value.int IntKind.i64 (0)), D.v (Value.int IntKind.i64 (77777)), D.v (Value.int IntKind.i64 (0))]])) && List.all (List.take (List.length R) (R ++ []) ++ [[D.v (Value.int IntKind.i64 (0)), D.v (Value.int IntKind.i64 (77777)), D.v (Value.int IntKind.i64 (0))], [D.v (Value.int IntKind.i64 (0)), D.v (Value.int IntKind.i64 (77777)), D.v (Value.int IntKind.i64 (0))]]) fun r => List.all r D.keeps then K (DV.c (D.s (1) (3) (List.take (Int.toNat (@Nat.cast Int _ (List.length R)) - 0) (List.take (List.length R) (R ++ []) ++ [[D.v (Value.int IntKind.i64 (0)), D.v (Value.int IntKind.i64 (77777)), D.v (Value.int IntKind.i64 (0))], [D.v (Value.int IntKind.i64 (0)), D.v (Value.int IntKind.i64 (77777)), D.v (Value.int IntKind.i64 (0))]])) (List.take (List.length R + 2 - 0 - (Int.toNat (@Nat.cast Int _ (List.length R)) - 0)) (List.drop (Int.toNat (@Nat.cast Int _ (List.length R)) - 0) (List.take (List.length R) (R ++ []) ++ [[D.v (Value.int IntKind.i64 (0)), D.v (Value.int IntKind.i64 (77777)), D.v (Value.int IntKind.i64 (0))], [D.v (Value.int IntKind.i64 (0)), D.v (Value.int IntKind.i64 (77777)), D.v (Value.int IntKind.i64 (0))]]))))) else False else False else False else False) := by kernel_rfl
def sLendWrites : Spec := fun ds Q => match ds with | [.c (.s 0 3 R sp)] => cond (allV R && decide (R.length ≤ 5864062014635)) (Q (.c (.s 1 3 R markWrites))) False | _ => False
theorem cLendWrites {R sp : List (List D)} (hR : allV R = true) (hl : R.length ≤ 5864062014635) : CT Try.prog 45 [dS 3 R sp] (.c (.s 1 3 R markWrites)) := by
  refine ct_ask (.cons oCopyWrites .nil) mixed Try.func45 rfl rfl rfl ?_
  rw [eLendWrites]
  have g1 : (R.length + 2) * 24 ≤ 140737488355328 := by omega
  have g2 : R.length + 2 ≤ 9223372036854775807 := by omega
  have g3 : ((R.length : Nat) : Int) ≤ ((R.length + 2 : Nat) : Int) := by omega
  simp only [hR, hl, g1, g2, g3, decide_true, Bool.and_self, cond_true, Bool.true_and, Int.natCast_nonneg, Int.toNat_natCast, Nat.sub_zero, List.append_nil, Nat.le_refl, List.length_append, List.length_cons, List.length_nil, Nat.zero_add, Nat.le_add_right, List.take_left, List.drop_left, Nat.add_sub_cancel_left, Bool.and_true, List.take_length]
  have hk : ∀ M : List (List D), M = R ++ markWrites → (M.all fun r => r.all D.keeps) = true := fun M hM => by rw [hM]; exact keeps_of (by rw [allV_app, hR]; rfl)
  rw [hk (R ++ [[vI 0, vI 77777, vI 0], [vI 0, vI 77777, vI 0]]) rfl]
  exact (rfl : DV.c (D.s 1 3 R markWrites) = DV.c (D.s 1 3 R markWrites))
theorem oLendWrites : SpecOK Try.prog 45 sLendWrites := o_of Try.func45 (by kernel_rfl) rfl fun ds Q h => by
  unfold sLendWrites at h; split at h
  · obtain ⟨h1, h2⟩ := cond_P h
    simp only [Bool.and_eq_true, decide_eq_true_eq] at h1
    exact ⟨_, cLendWrites h1.1 h1.2, by simp [DV.pureOwn, DV.pure1, D.pureOwn, ownLL_of h1.1, ownLL_mZ], rfl, h2⟩
  · exact h.elim
theorem eKeptWrites (R sp : List (List D)) (K : DV → Prop) : (ask Try.prog [(50, sSameWrites)] Try.f56 [dS 3 R [[vI 0, vI 77777, vI 0], [vI 0, vI 77777, vI 0]], dS 3 R sp] K) = (bif true && (decide (0 ≤ IntKind.wrap IntKind.i64 (@Nat.cast Int _ (List.length R) + 2)) && decide (IntKind.wrap IntKind.i64 (@Nat.cast Int _ (List.length R) + 2) ≤ @Nat.cast Int _ (List.length R + 2))) then bif okZ (3) R && okZ (3) R then bif decide (toZ R = toZ R) then bif decide (0 ≤ @Nat.cast Int _ (List.length R)) && decide (@Nat.cast Int _ (List.length R) < @Nat.cast Int _ (List.length (cut (R ++ [[D.v (Value.int IntKind.i64 (0)), D.v (Value.int IntKind.i64 (77777)), D.v (Value.int IntKind.i64 (0))], [D.v (Value.int IntKind.i64 (0)), D.v (Value.int IntKind.i64 (77777)), D.v (Value.int IntKind.i64 (0))]]) (0) (Int.toNat (IntKind.wrap IntKind.i64 (@Nat.cast Int _ (List.length R) + 2)) - 0)))) then bif isJ [IntKind.i64, IntKind.i64, IntKind.i64] (List.drop (0) (List.getD (cut (R ++ [[D.v (Value.int IntKind.i64 (0)), D.v (Value.int IntKind.i64 (77777)), D.v (Value.int IntKind.i64 (0))], [D.v (Value.int IntKind.i64 (0)), D.v (Value.int IntKind.i64 (77777)), D.v (Value.int IntKind.i64 (0))]]) (0) (Int.toNat (IntKind.wrap IntKind.i64 (@Nat.cast Int _ (List.length R) + 2)) - 0)) (Int.toNat (@Nat.cast Int _ (List.length R))) [])) then bif eqI [hdJ (List.drop (0) (List.getD (cut (R ++ [[D.v (Value.int IntKind.i64 (0)), D.v (Value.int IntKind.i64 (77777)), D.v (Value.int IntKind.i64 (0))], [D.v (Value.int IntKind.i64 (0)), D.v (Value.int IntKind.i64 (77777)), D.v (Value.int IntKind.i64 (0))]]) (0) (Int.toNat (IntKind.wrap IntKind.i64 (@Nat.cast Int _ (List.length R) + 2)) - 0)) (Int.toNat (@Nat.cast Int _ (List.length R))) [])), hdJ (List.tail (List.drop (0) (List.getD (cut (R ++ [[D.v (Value.int IntKind.i64 (0)), D.v (Value.int IntKind.i64 (77777)), D.v (Value.int IntKind.i64 (0))], [D.v (Value.int IntKind.i64 (0)), D.v (Value.int IntKind.i64 (77777)), D.v (Value.int IntKind.i64 (0))]]) (0) (Int.toNat (IntKind.wrap IntKind.i64 (@Nat.cast Int _ (List.length R) + 2)) - 0)) (Int.toNat (@Nat.cast Int _ (List.length R))) []))), hdJ (List.tail (List.tail (List.drop (0) (List.getD (cut (R ++ [[D.v (Value.int IntKind.i64 (0)), D.v (Value.int IntKind.i64 (77777)), D.v (Value.int IntKind.i64 (0))], [D.v (Value.int IntKind.i64 (0)), D.v (Value.int IntKind.i64 (77777)), D.v (Value.int IntKind.i64 (0))]]) (0) (Int.toNat (IntKind.wrap IntKind.i64 (@Nat.cast Int _ (List.length R) + 2)) - 0)) (Int.toNat (@Nat.cast Int _ (List.length R))) []))))] [0, 77777, 0] then bif decide (0 ≤ IntKind.wrap IntKind.i64 (@Nat.cast Int _ (List.length R) + 1)) && decide (IntKind.wrap IntKind.i64 (@Nat.cast Int _ (List.length R) + 1) < @Nat.cast Int _ (List.length (cut (R ++ [[D.v (Value.int IntKind.i64 (0)), D.v (Value.int IntKind.i64 (77777)), D.v (Value.int IntKind.i64 (0))], [D.v (Value.int IntKind.i64 (0)), D.v (Value.int IntKind.i64 (77777)), D.v (Value.int IntKind.i64 (0))]]) (0) (Int.toNat (IntKind.wrap IntKind.i64 (@Nat.cast Int _ (List.length R) + 2)) - 0)))) then bif isJ [IntKind.i64, IntKind.i64, IntKind.i64] (List.drop (0) (List.getD (cut (R ++ [[D.v (Value.int IntKind.i64 (0)), D.v (Value.int IntKind.i64 (77777)), D.v (Value.int IntKind.i64 (0))], [D.v (Value.int IntKind.i64 (0)), D.v (Value.int IntKind.i64 (77777)), D.v (Value.int IntKind.i64 (0))]]) (0) (Int.toNat (IntKind.wrap IntKind.i64 (@Nat.cast Int _ (List.length R) + 2)) - 0)) (Int.toNat (IntKind.wrap IntKind.i64 (@Nat.cast Int _ (List.length R) + 1))) [])) then K (DV.c (D.v (Value.bool (eqI [hdJ (List.drop (0) (List.getD (cut (R ++ [[D.v (Value.int IntKind.i64 (0)), D.v (Value.int IntKind.i64 (77777)), D.v (Value.int IntKind.i64 (0))], [D.v (Value.int IntKind.i64 (0)), D.v (Value.int IntKind.i64 (77777)), D.v (Value.int IntKind.i64 (0))]]) (0) (Int.toNat (IntKind.wrap IntKind.i64 (@Nat.cast Int _ (List.length R) + 2)) - 0)) (Int.toNat (IntKind.wrap IntKind.i64 (@Nat.cast Int _ (List.length R) + 1))) [])), hdJ (List.tail (List.drop (0) (List.getD (cut (R ++ [[D.v (Value.int IntKind.i64 (0)), D.v (Value.int IntKind.i64 (77777)), D.v (Value.int IntKind.i64 (0))], [D.v (Value.int IntKind.i64 (0)), D.v (Value.int IntKind.i64 (77777)), D.v (Value.int IntKind.i64 (0))]]) (0) (Int.toNat (IntKind.wrap IntKind.i64 (@Nat.cast Int _ (List.length R) + 2)) - 0)) (Int.toNat (IntKind.wrap IntKind.i64 (@Nat.cast Int _ (List.length R) + 1))) []))), hdJ (List.tail (List.tail (List.drop (0) (List.getD (cut (R ++ [[D.v (Value.int IntKind.i64 (0)), D.v (Value.int IntKind.i64 (77777)), D.v (Value.int IntKind.i64 (0))], [D.v (Value.int IntKind.i64 (0)), D.v (Value.int IntKind.i64 (77777)), D.v (Value.int IntKind.i64 (0))]]) (0) (Int.toNat (IntKind.wrap IntKind.i64 (@Nat.cast Int _ (List.length R) + 2)) - 0)) (Int.toNat (IntKind.wrap IntKind.i64 (@Nat.cast Int _ (List.length R) + 1))) []))))] [0, 77777, 0])))) else False else False else K (DV.c (D.v (Value.bool false))) else False else False else K (DV.c (D.v (Value.bool false))) else False else False) := by kernel_rfl
def sKeptWrites : Spec := fun ds Q => match ds with
  | [.c (.s 0 3 R sp), .c (.s 0 3 R' sp')] => (okZ 3 R = true ∧ R.length ≤ 5864062014635 ∧ R' = R ∧ sp = markWrites) ∧ Q (B true)
  | _ => False
theorem cKeptWrites {R sp : List (List D)} (hR : okZ 3 R = true) (hl : R.length ≤ 5864062014635) : CT Try.prog 56 [dS 3 R [[vI 0, vI 77777, vI 0], [vI 0, vI 77777, vI 0]], dS 3 R sp] (B true) := by
  refine ct_ask (.cons oSameWrites .nil) mixed Try.func56 rfl rfl rfl ?_
  rw [eKeptWrites]
  have w1 : IntKind.wrap .i64 ((R.length : Int) + 1) = ((R.length + 1 : Nat) : Int) := wrap_nat (n := 1) (by omega)
  have w2 : IntKind.wrap .i64 ((R.length : Int) + 2) = ((R.length + 2 : Nat) : Int) := wrap_nat (n := 2) (by omega)
  have hc : cut (R ++ [[vI 0, vI 77777, vI 0], [vI 0, vI 77777, vI 0]]) 0 (R.length + 2) = R ++ [[vI 0, vI 77777, vI 0], [vI 0, vI 77777, vI 0]] := by
    simp only [cut, List.drop_zero]
    exact List.take_of_length_le (by simp)
  have g1 : (R ++ [[vI 0, vI 77777, vI 0], [vI 0, vI 77777, vI 0]]).getD R.length [] = [vI 0, vI 77777, vI 0] := by simp [List.getD_eq_getElem?_getD]
  have g2 : (R ++ [[vI 0, vI 77777, vI 0], [vI 0, vI 77777, vI 0]]).getD (R.length + 1) [] = [vI 0, vI 77777, vI 0] := by
    rw [List.getD_eq_getElem?_getD, List.getElem?_append_right (by omega)]
    simp
  have hle : (R ++ [[vI 0, vI 77777, vI 0], [vI 0, vI 77777, vI 0]]).length = R.length + 2 := by simp
  have l1 : (R.length : Int) < ((R.length + 2 : Nat) : Int) := by omega
  have l2 : ((R.length + 1 : Nat) : Int) < ((R.length + 2 : Nat) : Int) := by omega
  simp only [w1, w2, Int.natCast_nonneg, Int.toNat_natCast, Nat.sub_zero, hc, hle, l1, l2, g1, g2, hR, decide_true, Bool.and_self, cond_true, List.drop_zero, Int.le_refl, Bool.true_and]
  exact (rfl : B true = B true)
theorem oKeptWrites : SpecOK Try.prog 56 sKeptWrites := o_of Try.func56 (by kernel_rfl) rfl fun ds Q h => by
  unfold sKeptWrites at h; split at h
  · obtain ⟨⟨hR, hl, e1, e2⟩, h3⟩ := h
    subst e1 e2
    exact ⟨_, cKeptWrites hR hl, rfl, rfl, h3⟩
  · exact h.elim
end Vm
