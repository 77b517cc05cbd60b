/- An interpreter for Go's texts over plain data, its proof, and what it says of the functions that the law reaches. My own work. -/
import Derived.Test.YtnhodnfnlnccaaaGreatMs3
set_option linter.unusedSimpArgs false
set_option linter.unusedVariables false
set_option maxRecDepth 100000
set_option maxHeartbeats 2000000
namespace Vm
section
open Go Go.Proofs
def ZaH (R sp R' sp' : List (List D)) (i : Int) (p : Bool) : X := ⟨mkT 26 [(0, aS 4 R sp), (1, aS 4 R' sp'), (4, ab p), (5, ai i)], [], [], []⟩
def ZdU (R sp R' sp' : List (List D)) (y : X) : X := ZaH R sp R' sp' (ZbY y 5) (Zjf y 4)
theorem ZlU (R sp R' sp' : List (List D)) (i : Int) (p : Bool) (N : X → Prop) (E : Exit → X → Prop) : (ZaA band bor Tryz.prog [] [] Tryz.f77 0 [0, 1, 4, 5] [] (ZdU R sp R' sp') (ZdU R sp R' sp') N E (ZaH R sp R' sp' i p)) = (bif decide (i < @Nat.cast Int _ (List.length R)) then bif decide (0 ≤ i) && decide (i < @Nat.cast Int _ (List.length R)) then bif isJ [IntKind.i64, IntKind.i64, IntKind.i64, IntKind.i64] (List.drop (0) (List.getD R (Int.toNat i) [])) then bif decide (0 ≤ i) && decide (i < @Nat.cast Int _ (List.length R')) then bif isJ [IntKind.i64, IntKind.i64, IntKind.i64, IntKind.i64] (List.drop (0) (List.getD R' (Int.toNat i) [])) then bif !eqI [hdJ (List.drop (0) (List.getD R (Int.toNat i) [])), hdJ (List.tail (List.drop (0) (List.getD R (Int.toNat i) []))), hdJ (List.tail (List.tail (List.drop (0) (List.getD R (Int.toNat i) [])))), hdJ (List.tail (List.tail (List.tail (List.drop (0) (List.getD R (Int.toNat i) [])))))] [hdJ (List.drop (0) (List.getD R' (Int.toNat i) [])), hdJ (List.tail (List.drop (0) (List.getD R' (Int.toNat i) []))), hdJ (List.tail (List.tail (List.drop (0) (List.getD R' (Int.toNat i) [])))), hdJ (List.tail (List.tail (List.tail (List.drop (0) (List.getD R' (Int.toNat i) [])))))] then ZaH R sp R' sp' i false = ZaH R sp R' sp' i false ∧ E Exit.ret (ZaH R sp R' sp' i false) else ZaH R sp R' sp' (IntKind.wrap IntKind.i64 (i + 1)) p = ZaH R sp R' sp' (IntKind.wrap IntKind.i64 (i + 1)) p ∧ N (ZaH R sp R' sp' (IntKind.wrap IntKind.i64 (i + 1)) p) else False else False else False else False else ZaH R sp R' sp' i p = ZaH R sp R' sp' i p ∧ E (Exit.exit (0)) (ZaH R sp R' sp' i p)) := by kernel_rfl
def ZdO (l l' : List (List Int)) (sp sp' : List (List D)) : LSum := fun Q x => x.only [0, 1, 4, 5] [] = ZaH (mZ l) sp (mZ l') sp' 0 false ∧ (l = l' → Q (.exit 0) (ZaH (mZ l) sp (mZ l') sp' l.length false)) ∧ (l ≠ l' → ∀ i : Int, Q .ret (ZaH (mZ l) sp (mZ l') sp' i false))
theorem Zog (l l' : List (List Int)) (sp sp' : List (List D)) (K : DV → Prop) : (askL Tryz.prog [] [(4, ZdO l l' sp sp')] Tryz.f77 [dS 4 (mZ l) sp, dS 4 (mZ l') sp'] K) = (bif @Nat.cast Int _ (List.length (mZ l)) != @Nat.cast Int _ (List.length (mZ l')) then K (DV.c (D.v (Value.bool false))) else ZaH (mZ l) sp (mZ l') sp' (0) false = ZaH (mZ l) sp (mZ l') sp' (0) false ∧ (l = l' → K (DV.c (D.v (Value.bool true)))) ∧ (l ≠ l' → ∀ (i : Int), K (DV.c (D.v (Value.bool false))))) := by kernel_rfl
theorem ZlV (l l' : List (List Int)) (sp sp' : List (List D)) (K : DV → Prop) : (askL Tryz.prog [] [(4, fun _ _ => False)] Tryz.f77 [dS 4 (mZ l) sp, dS 4 (mZ l') sp'] K) = (bif @Nat.cast Int _ (List.length (mZ l)) != @Nat.cast Int _ (List.length (mZ l')) then K (DV.c (D.v (Value.bool false))) else False) := by kernel_rfl
theorem Zju {l l' : List (List Int)} {sp sp' : List (List D)} (hw : wid 4 l) (hw' : wid 4 l') (hlen : l.length = l'.length) (hn : l.length ≤ 9223372036854775807) (Q : Exit → X → Prop) (x : X) (h : ZdO l l' sp sp' Q x) : XWP Tryz.prog (.loop (Zal Tryz.f77 0)) Q x := by
  obtain ⟨h1, h2, h3⟩ := h
  refine Zas (ι := Nat) (H := hkA band bor [] []) (fn := Tryz.f77) (i := 0) (ts := [0, 1, 4, 5]) (ks := []) (ZaJ .nil) mixed (Zae rfl)
    (fun i => ZaH (mZ l) sp (mZ l') sp' i false) (fun i => i ≤ l.length ∧ ∀ j, j < i → l.getD j [] = l'.getD j []) (fun i => l.length - i) 0 (ZdU (mZ l) sp (mZ l') sp') (ZdU (mZ l) sp (mZ l') sp') (fun i hp => ?_) ⟨Nat.zero_le _, fun j hj => by omega⟩ h1
  obtain ⟨hi, hj⟩ := hp
  show ZaA band bor Tryz.prog _ _ Tryz.f77 0 _ _ _ _ _ _ _
  rw [ZlU]
  by_cases hl : i < l.length
  · have wi : IntKind.wrap .i64 ((i : Int) + 1) = ((i + 1 : Nat) : Int) := Zaj (n := 1) (by omega)
    have hl' : i < l'.length := by omega
    have hj1 : isJ [IntKind.i64, IntKind.i64, IntKind.i64, IntKind.i64] ((mZ l).getD i []) = true := Zau (j := 0) (n := 4) hw hl (by omega)
    have hj2 : isJ [IntKind.i64, IntKind.i64, IntKind.i64, IntKind.i64] ((mZ l').getD i []) = true := Zau (j := 0) (n := 4) hw' hl' (by omega)
    have he := Zfx (l.getD i []) (l'.getD i []) (by rw [ZaC hw hl, ZaC hw' hl'])
    rw [← row4 (ZaC hw hl), ← row4 (ZaC hw' hl')] at he
    simp only [Zai, Int.ofNat_lt, hl, hl', decide_true, cond_true, Int.natCast_nonneg, Bool.and_self, Int.toNat_natCast, ZaV, ZaT, Zbn, hj1, hj2, List.drop_zero, ZaF, true_and, wi, he]
    rw [row4 (ZaC hw hl), row4 (ZaC hw' hl')]
    by_cases hee : l.getD i [] = l'.getD i []
    · rw [decide_eq_true hee]
      refine ⟨i + 1, by omega, ⟨hl, fun j hji => ?_⟩, rfl⟩
      rcases Nat.lt_succ_iff_lt_or_eq.1 hji with hji | rfl
      · exact hj j hji
      · exact hee
    · rw [decide_eq_false hee]
      exact h3 (fun e => hee (by rw [e])) _
  · have e : i = l.length := by omega
    subst e
    simp only [Zai, Int.ofNat_lt, Nat.lt_irrefl, decide_false, cond_false, true_and]
    exact h2 (ZeF hlen fun j h => hj j h)
theorem Zn3 {l l' : List (List Int)} {sp sp' : List (List D)} (hw : wid 4 l) (hw' : wid 4 l') (hn : l.length ≤ 9223372036854775807) : CT Tryz.prog 77 [dS 4 (mZ l) sp, dS 4 (mZ l') sp'] (B (decide (l = l'))) := by
  by_cases hlen : l.length = l'.length
  · refine ZaB (l := []) (m := [(4, ZdO l l' sp sp')]) .nil mixed (Za9 rfl (by kernel_rfl) (Zju hw hw' hlen hn)) Tryz.func77 rfl rfl rfl ?_
    rw [Zog]
    have : (((mZ l).length : Int) != ((mZ l').length : Int)) = false := by simp [Zai, hlen]
    rw [this]
    by_cases he : l = l'
    · simp [he]
    · simp [he]
  · refine ZaB (l := []) (m := [(4, fun _ _ => False)]) .nil mixed (Za9 rfl (by kernel_rfl) (fun _ _ h => h.elim)) Tryz.func77 rfl rfl rfl ?_
    rw [ZlV]
    have : (((mZ l).length : Int) != ((mZ l').length : Int)) = true := by simp [Zai]; omega
    rw [this]
    have : l ≠ l' := fun e => hlen (by rw [e])
    simp [this]
def ZcW : Spec := fun ds Q => match ds with | [.c (.s 0 4 R sp), .c (.s 0 4 R' sp')] => cond (okZ 4 R && okZ 4 R') (Q (B (decide (toZ R = toZ R')))) False | _ => False
theorem ZhT : Zad Tryz.prog 77 ZcW := o_of Tryz.func77 (by kernel_rfl) rfl fun ds Q h => by
  unfold ZcW at h; split at h
  · rename_i R sp R' sp'
    obtain ⟨h1, h2⟩ := Zag h
    simp only [Bool.and_eq_true] at h1
    obtain ⟨e1, w1, n1⟩ := Zah h1.1
    obtain ⟨e2, w2, n2⟩ := Zah h1.2
    rw [e1, e2]
    rw [Zan R |>.symm] at n1
    generalize toZ R = l at *
    generalize toZ R' = l' at *
    exact ⟨_, Zn3 w1 w2 n1, rfl, rfl, h2⟩
  · exact h.elim
def ZaP (n kn : Nat) (i : Int) (W : List (List D)) : X := ⟨mkT 19 [(0, .c (.rs 1000000 0 4 0 n kn)), (2, ai i)], [(1000000, .sl 0 4 W)], [], []⟩
def Zda (n kn : Nat) (y : X) : X := ZaP n kn (ZbY y 2) (Zfn y 1000000)
theorem Zjc (n kn : Nat) (i : Int) (W : List (List D)) (N : X → Prop) (E : Exit → X → Prop) : (ZaA band bor Tryz.prog [] [] Tryz.f125 0 [0, 2] [1000000] (Zda n kn) (Zda n kn) N E (ZaP n kn i W)) = (bif decide (i < @Nat.cast Int _ n) then bif decide (0 ≤ i) && decide (i < @Nat.cast Int _ n) then bif decide (addN (0) (Int.toNat i) < List.length W) then bif isJ [IntKind.i64] (List.drop (1) (List.getD W (addN (0) (Int.toNat i)) [])) then bif decide (0 ≤ i) && decide (i < @Nat.cast Int _ n) then bif decide (addN (0) (Int.toNat i) < List.length W) && decide (1 + 1 ≤ 4) then ZaP n kn (IntKind.wrap IntKind.i64 (i + 1)) (List.set W (addN (0) (Int.toNat i)) (splice (List.getD W (addN (0) (Int.toNat i)) []) (1) [D.v (Value.int IntKind.i64 (bxor (hdJ (List.drop (1) (List.getD W (addN (0) (Int.toNat i)) []))) (90)))])) = ZaP n kn (IntKind.wrap IntKind.i64 (i + 1)) (List.set W (addN (0) (Int.toNat i)) (splice (List.getD W (addN (0) (Int.toNat i)) []) (1) [D.v (Value.int IntKind.i64 (bxor (hdJ (List.drop (1) (List.getD W (addN (0) (Int.toNat i)) []))) (90)))])) ∧ N (ZaP n kn (IntKind.wrap IntKind.i64 (i + 1)) (List.set W (addN (0) (Int.toNat i)) (splice (List.getD W (addN (0) (Int.toNat i)) []) (1) [D.v (Value.int IntKind.i64 (bxor (hdJ (List.drop (1) (List.getD W (addN (0) (Int.toNat i)) []))) (90)))]))) else False else False else False else False else False else ZaP n kn i W = ZaP n kn i W ∧ E (Exit.exit (0)) (ZaP n kn i W)) := by kernel_rfl
def Zdh (n kn : Nat) (W0 : List (List D)) : LSum := fun Q y => y.only [0, 2] [1000000] = ZaP n kn 0 W0 ∧ ∀ i W, Q (.exit 0) (ZaP n kn i W)
theorem Zlv (R sp : List (List D)) (K : DV → Prop) : (askL Tryz.prog [] [(1, Zdh R.length (R.length + sp.length) (R ++ sp))] Tryz.f125 [oS 4 R sp] K) = (ZaP (List.length R) (List.length R + List.length sp) (0) (R ++ sp) = ZaP (List.length R) (List.length R + List.length sp) (0) (R ++ sp) ∧ ∀ (i : Int) (W : List (List D)), K (DV.tup [])) := by kernel_rfl
theorem Zkv (K : DV → Prop) : (ask Tryz.prog [] Tryz.f125 [.c (.v (.slice none 0 0))] K) = (K (DV.tup [])) := by kernel_rfl
theorem Zi7 {n kn : Nat} {l : List (List Int)} (hw : wid 4 l) (hnl : n ≤ l.length) (hn : l.length ≤ 9223372036854775807) (Q : Exit → X → Prop) (x : X) (h : Zdh n kn (mZ l) Q x) : XWP Tryz.prog (.loop (Zal Tryz.f125 0)) Q x := by
  obtain ⟨h1, h2⟩ := h
  refine Zas (ι := Nat × List (List Int)) (H := hkA band bor [] []) (fn := Tryz.f125) (i := 0) (ts := [0, 2]) (ks := [1000000]) (ZaJ .nil) mixed (Zae rfl)
    (fun p => ZaP n kn p.1 (mZ p.2)) (fun p => p.1 ≤ n ∧ wid 4 p.2 ∧ p.2.length = l.length) (fun p => n - p.1) (0, l) (Zda n kn) (Zda n kn) (fun p hp => ?_) ⟨Nat.zero_le _, hw, rfl⟩ h1
  obtain ⟨i, m⟩ := p
  obtain ⟨hi, hm, hml⟩ := hp
  simp only at hi hm hml ⊢
  show ZaA band bor Tryz.prog _ _ Tryz.f125 0 _ _ _ _ _ _ _
  rw [Zjc]
  by_cases hl : i < n
  · have wi : IntKind.wrap .i64 ((i : Int) + 1) = ((i + 1 : Nat) : Int) := Zaj (n := 1) (by omega)
    have hlm : i < m.length := by omega
    have hj := Zb9 (j := 1) hm hlm (by omega)
    have hrow := ZaC hm hlm
    have hd1 : (1 + 1 ≤ 4) = True := by simp
    simp only [Int.ofNat_lt, hl, decide_true, cond_true, Int.natCast_nonneg, Bool.and_self, Int.toNat_natCast, addN, Zai, hlm, hj, ZbS, wi, hd1, true_and]
    rw [Zek, Zf7 _ _ _ (by omega), Zks]
    exact ⟨(i + 1, _), by simp; omega, ⟨hl, ZgE hm (by rw [List.length_set, hrow]), by rw [List.length_set, hml]⟩, rfl⟩
  · have e : ¬ ((i : Int) < (n : Int)) := by omega
    simp only [e, decide_false, cond_false, true_and]
    exact h2 _ _
def Zep : Spec := fun ds Q => match ds with
  | [.c (.s 1 4 R sp)] => cond (okZ 4 (R ++ sp)) (Q (.tup [])) False
  | [.c (.v (.slice none 0 0))] => Q (.tup [])
  | _ => False
theorem ZlY : Zad Tryz.prog 125 Zep := o_of Tryz.func125 (by kernel_rfl) rfl fun ds Q h => by
  unfold Zep at h; split at h
  · rename_i R sp
    obtain ⟨h1, h2⟩ := Zag h
    obtain ⟨e1, w1, n1⟩ := Zah h1
    refine ⟨_, ZaB (l := []) (m := [(1, Zdh R.length (R.length + sp.length) (R ++ sp))]) .nil mixed (Za9 rfl (by kernel_rfl) (by rw [e1]; exact Zi7 w1 (by rw [Zan]; simp) (by rw [Zan]; exact n1))) Tryz.func125 rfl rfl (by simp [DV.fit32, DV.width]) ?_, rfl, rfl, h2⟩
    rw [Zlv]
    exact ⟨rfl, fun _ _ => rfl⟩
  · refine ⟨_, Zak .nil mixed Tryz.func125 rfl rfl rfl ?_, rfl, rfl, h⟩
    rw [Zkv]
  · exact h.elim
theorem Zk2 (R sp : List (List D)) (K : DV → Prop) : (ask Tryz.prog [] Tryz.f90 [dS 4 R sp] K) = ((bif Nat.beq (List.length R) (OfNat.ofNat (0)) then K (DV.c (D.s (1) (4) [] [])) else True) ∧ bif allV R then bif true && (decide ((0 + List.length R) * 32 ≤ 140737488355328) && decide (0 + List.length R ≤ 9223372036854775807)) then bif decide (0 + List.length R ≤ List.length ([] ++ R)) && List.all ([] ++ R) fun r => List.all r D.keeps then K (DV.c (D.s (1) (4) (List.take (0 + List.length R) ([] ++ R)) (List.take (0 + List.length R - (0 + List.length R)) (List.drop (0 + List.length R) ([] ++ R))))) else False else False else False) := by kernel_rfl
def Zdn : Spec := fun ds Q => match ds with | [.c (.s 0 4 R sp)] => cond (allV R && decide (R.length ≤ 4398046510977)) (Q (.c (.s 1 4 R []))) False | _ => False
theorem Zeo : Zad Tryz.prog 90 Zdn := o_of Tryz.func90 (by kernel_rfl) rfl fun ds Q h => by
  unfold Zdn at h; split at h
  · rename_i R sp
    obtain ⟨h1, h2⟩ := Zag h
    simp only [Bool.and_eq_true, decide_eq_true_eq] at h1
    refine ⟨_, Zak .nil mixed Tryz.func90 rfl rfl rfl ?_, by simp [DV.pureOwn, DV.pure1, D.pureOwn, ZaE h1.1]; rfl, rfl, h2⟩
    rw [Zk2]
    have g1 : (0 + R.length) * 32 ≤ 140737488355328 := by omega
    have g2 : 0 + R.length ≤ 9223372036854775807 := by omega
    refine ⟨?_, ?_⟩
    · cases R with
      | nil => exact (rfl : DV.c (D.s 1 4 [] []) = DV.c (D.s 1 4 [] []))
      | cons r R => exact trivial
    · simp [h1.1, Zao h1.1]
      exact ⟨by omega, by omega⟩
  · exact h.elim
def ZaI (R sp R' sp' : List (List D)) (i : Int) (p : Bool) : X := ⟨mkT 26 [(0, aS 3 R sp), (1, aS 3 R' sp'), (4, ab p), (5, ai i)], [], [], []⟩
def ZdW (R sp R' sp' : List (List D)) (y : X) : X := ZaI R sp R' sp' (ZbY y 5) (Zjf y 4)
theorem Zmc (R sp R' sp' : List (List D)) (i : Int) (p : Bool) (N : X → Prop) (E : Exit → X → Prop) : (ZaA band bor Tryz.prog [] [] Tryz.f42 0 [0, 1, 4, 5] [] (ZdW R sp R' sp') (ZdW R sp R' sp') N E (ZaI R sp R' sp' i p)) = (bif decide (i < @Nat.cast Int _ (List.length R)) then bif decide (0 ≤ i) && decide (i < @Nat.cast Int _ (List.length R)) then bif isJ [IntKind.i64, IntKind.i64, IntKind.i64] (List.drop (0) (List.getD R (Int.toNat i) [])) then bif decide (0 ≤ i) && decide (i < @Nat.cast Int _ (List.length R')) then bif isJ [IntKind.i64, IntKind.i64, IntKind.i64] (List.drop (0) (List.getD R' (Int.toNat i) [])) then bif !eqI [hdJ (List.drop (0) (List.getD R (Int.toNat i) [])), hdJ (List.tail (List.drop (0) (List.getD R (Int.toNat i) []))), hdJ (List.tail (List.tail (List.drop (0) (List.getD R (Int.toNat i) []))))] [hdJ (List.drop (0) (List.getD R' (Int.toNat i) [])), hdJ (List.tail (List.drop (0) (List.getD R' (Int.toNat i) []))), hdJ (List.tail (List.tail (List.drop (0) (List.getD R' (Int.toNat i) []))))] then ZaI R sp R' sp' i false = ZaI R sp R' sp' i false ∧ E Exit.ret (ZaI R sp R' sp' i false) else ZaI R sp R' sp' (IntKind.wrap IntKind.i64 (i + 1)) p = ZaI R sp R' sp' (IntKind.wrap IntKind.i64 (i + 1)) p ∧ N (ZaI R sp R' sp' (IntKind.wrap IntKind.i64 (i + 1)) p) else False else False else False else False else ZaI R sp R' sp' i p = ZaI R sp R' sp' i p ∧ E (Exit.exit (0)) (ZaI R sp R' sp' i p)) := by kernel_rfl
def ZdF (l l' : List (List Int)) (sp sp' : List (List D)) : LSum := fun Q x => x.only [0, 1, 4, 5] [] = ZaI (mZ l) sp (mZ l') sp' 0 false ∧ (l = l' → Q (.exit 0) (ZaI (mZ l) sp (mZ l') sp' l.length false)) ∧ (l ≠ l' → ∀ i : Int, Q .ret (ZaI (mZ l) sp (mZ l') sp' i false))
theorem ZnH (l l' : List (List Int)) (sp sp' : List (List D)) (K : DV → Prop) : (askL Tryz.prog [] [(4, ZdF l l' sp sp')] Tryz.f42 [dS 3 (mZ l) sp, dS 3 (mZ l') sp'] K) = (bif @Nat.cast Int _ (List.length (mZ l)) != @Nat.cast Int _ (List.length (mZ l')) then K (DV.c (D.v (Value.bool false))) else ZaI (mZ l) sp (mZ l') sp' (0) false = ZaI (mZ l) sp (mZ l') sp' (0) false ∧ (l = l' → K (DV.c (D.v (Value.bool true)))) ∧ (l ≠ l' → ∀ (i : Int), K (DV.c (D.v (Value.bool false))))) := by kernel_rfl
theorem ZlD (l l' : List (List Int)) (sp sp' : List (List D)) (K : DV → Prop) : (askL Tryz.prog [] [(4, fun _ _ => False)] Tryz.f42 [dS 3 (mZ l) sp, dS 3 (mZ l') sp'] K) = (bif @Nat.cast Int _ (List.length (mZ l)) != @Nat.cast Int _ (List.length (mZ l')) then K (DV.c (D.v (Value.bool false))) else False) := by kernel_rfl
theorem ZjS {l l' : List (List Int)} {sp sp' : List (List D)} (hw : wid 3 l) (hw' : wid 3 l') (hlen : l.length = l'.length) (hn : l.length ≤ 9223372036854775807) (Q : Exit → X → Prop) (x : X) (h : ZdF l l' sp sp' Q x) : XWP Tryz.prog (.loop (Zal Tryz.f42 0)) Q x := by
  obtain ⟨h1, h2, h3⟩ := h
  refine Zas (ι := Nat) (H := hkA band bor [] []) (fn := Tryz.f42) (i := 0) (ts := [0, 1, 4, 5]) (ks := []) (ZaJ .nil) mixed (Zae rfl)
    (fun i => ZaI (mZ l) sp (mZ l') sp' i false) (fun i => i ≤ l.length ∧ ∀ j, j < i → l.getD j [] = l'.getD j []) (fun i => l.length - i) 0 (ZdW (mZ l) sp (mZ l') sp') (ZdW (mZ l) sp (mZ l') sp') (fun i hp => ?_) ⟨Nat.zero_le _, fun j hj => by omega⟩ h1
  obtain ⟨hi, hj⟩ := hp
  show ZaA band bor Tryz.prog _ _ Tryz.f42 0 _ _ _ _ _ _ _
  rw [Zmc]
  by_cases hl : i < l.length
  · have wi : IntKind.wrap .i64 ((i : Int) + 1) = ((i + 1 : Nat) : Int) := Zaj (n := 1) (by omega)
    have hl' : i < l'.length := by omega
    have hj1 : isJ [IntKind.i64, IntKind.i64, IntKind.i64] ((mZ l).getD i []) = true := Zau (j := 0) (n := 3) hw hl (by omega)
    have hj2 : isJ [IntKind.i64, IntKind.i64, IntKind.i64] ((mZ l').getD i []) = true := Zau (j := 0) (n := 3) hw' hl' (by omega)
    have he := Zfx (l.getD i []) (l'.getD i []) (by rw [ZaC hw hl, ZaC hw' hl'])
    rw [← row3 (ZaC hw hl), ← row3 (ZaC hw' hl')] at he
    simp only [Zai, Int.ofNat_lt, hl, hl', decide_true, cond_true, Int.natCast_nonneg, Bool.and_self, Int.toNat_natCast, ZaV, ZaT, Zbn, hj1, hj2, List.drop_zero, ZaF, true_and, wi, he]
    rw [row3 (ZaC hw hl), row3 (ZaC hw' hl')]
    by_cases hee : l.getD i [] = l'.getD i []
    · rw [decide_eq_true hee]
      refine ⟨i + 1, by omega, ⟨hl, fun j hji => ?_⟩, rfl⟩
      rcases Nat.lt_succ_iff_lt_or_eq.1 hji with hji | rfl
      · exact hj j hji
      · exact hee
    · rw [decide_eq_false hee]
      exact h3 (fun e => hee (by rw [e])) _
  · have e : i = l.length := by omega
    subst e
    simp only [Zai, Int.ofNat_lt, Nat.lt_irrefl, decide_false, cond_false, true_and]
    exact h2 (ZeF hlen fun j h => hj j h)
theorem ZnO {l l' : List (List Int)} {sp sp' : List (List D)} (hw : wid 3 l) (hw' : wid 3 l') (hn : l.length ≤ 9223372036854775807) : CT Tryz.prog 42 [dS 3 (mZ l) sp, dS 3 (mZ l') sp'] (B (decide (l = l'))) := by
  by_cases hlen : l.length = l'.length
  · refine ZaB (l := []) (m := [(4, ZdF l l' sp sp')]) .nil mixed (Za9 rfl (by kernel_rfl) (ZjS hw hw' hlen hn)) Tryz.func42 rfl rfl rfl ?_
    rw [ZnH]
    have : (((mZ l).length : Int) != ((mZ l').length : Int)) = false := by simp [Zai, hlen]
    rw [this]
    by_cases he : l = l'
    · simp [he]
    · simp [he]
  · refine ZaB (l := []) (m := [(4, fun _ _ => False)]) .nil mixed (Za9 rfl (by kernel_rfl) (fun _ _ h => h.elim)) Tryz.func42 rfl rfl rfl ?_
    rw [ZlD]
    have : (((mZ l).length : Int) != ((mZ l').length : Int)) = true := by simp [Zai]; omega
    rw [this]
    have : l ≠ l' := fun e => hlen (by rw [e])
    simp [this]
def Zfo : Spec := fun ds Q => match ds with | [.c (.s 0 3 R sp), .c (.s 0 3 R' sp')] => cond (okZ 3 R && okZ 3 R') (Q (B (decide (toZ R = toZ R')))) False | _ => False
theorem Zol : Zad Tryz.prog 42 Zfo := o_of Tryz.func42 (by kernel_rfl) rfl fun ds Q h => by
  unfold Zfo at h; split at h
  · rename_i R sp R' sp'
    obtain ⟨h1, h2⟩ := Zag h
    simp only [Bool.and_eq_true] at h1
    obtain ⟨e1, w1, n1⟩ := Zah h1.1
    obtain ⟨e2, w2, n2⟩ := Zah h1.2
    rw [e1, e2]
    rw [Zan R |>.symm] at n1
    generalize toZ R = l at *
    generalize toZ R' = l' at *
    exact ⟨_, ZnO w1 w2 n1, rfl, rfl, h2⟩
  · exact h.elim
def ZaQ (n kn : Nat) (i : Int) (W : List (List D)) : X := ⟨mkT 19 [(0, .c (.rs 1000000 0 3 0 n kn)), (2, ai i)], [(1000000, .sl 0 3 W)], [], []⟩
def Zc6 (n kn : Nat) (y : X) : X := ZaQ n kn (ZbY y 2) (Zfn y 1000000)
theorem ZkL (n kn : Nat) (i : Int) (W : List (List D)) (N : X → Prop) (E : Exit → X → Prop) : (ZaA band bor Tryz.prog [] [] Tryz.f126 0 [0, 2] [1000000] (Zc6 n kn) (Zc6 n kn) N E (ZaQ n kn i W)) = (bif decide (i < @Nat.cast Int _ n) then bif decide (0 ≤ i) && decide (i < @Nat.cast Int _ n) then bif decide (addN (0) (Int.toNat i) < List.length W) then bif isJ [IntKind.i64] (List.drop (1) (List.getD W (addN (0) (Int.toNat i)) [])) then bif decide (0 ≤ i) && decide (i < @Nat.cast Int _ n) then bif decide (addN (0) (Int.toNat i) < List.length W) && decide (1 + 1 ≤ 3) then ZaQ n kn (IntKind.wrap IntKind.i64 (i + 1)) (List.set W (addN (0) (Int.toNat i)) (splice (List.getD W (addN (0) (Int.toNat i)) []) (1) [D.v (Value.int IntKind.i64 (bxor (hdJ (List.drop (1) (List.getD W (addN (0) (Int.toNat i)) []))) (90)))])) = ZaQ n kn (IntKind.wrap IntKind.i64 (i + 1)) (List.set W (addN (0) (Int.toNat i)) (splice (List.getD W (addN (0) (Int.toNat i)) []) (1) [D.v (Value.int IntKind.i64 (bxor (hdJ (List.drop (1) (List.getD W (addN (0) (Int.toNat i)) []))) (90)))])) ∧ N (ZaQ n kn (IntKind.wrap IntKind.i64 (i + 1)) (List.set W (addN (0) (Int.toNat i)) (splice (List.getD W (addN (0) (Int.toNat i)) []) (1) [D.v (Value.int IntKind.i64 (bxor (hdJ (List.drop (1) (List.getD W (addN (0) (Int.toNat i)) []))) (90)))]))) else False else False else False else False else False else ZaQ n kn i W = ZaQ n kn i W ∧ E (Exit.exit (0)) (ZaQ n kn i W)) := by kernel_rfl
def Zc3 (n kn : Nat) (W0 : List (List D)) : LSum := fun Q y => y.only [0, 2] [1000000] = ZaQ n kn 0 W0 ∧ ∀ i W, Q (.exit 0) (ZaQ n kn i W)
theorem ZlC (R sp : List (List D)) (K : DV → Prop) : (askL Tryz.prog [] [(1, Zc3 R.length (R.length + sp.length) (R ++ sp))] Tryz.f126 [oS 3 R sp] K) = (ZaQ (List.length R) (List.length R + List.length sp) (0) (R ++ sp) = ZaQ (List.length R) (List.length R + List.length sp) (0) (R ++ sp) ∧ ∀ (i : Int) (W : List (List D)), K (DV.tup [])) := by kernel_rfl
theorem Zki (K : DV → Prop) : (ask Tryz.prog [] Tryz.f126 [.c (.v (.slice none 0 0))] K) = (K (DV.tup [])) := by kernel_rfl
theorem Zif {n kn : Nat} {l : List (List Int)} (hw : wid 3 l) (hnl : n ≤ l.length) (hn : l.length ≤ 9223372036854775807) (Q : Exit → X → Prop) (x : X) (h : Zc3 n kn (mZ l) Q x) : XWP Tryz.prog (.loop (Zal Tryz.f126 0)) Q x := by
  obtain ⟨h1, h2⟩ := h
  refine Zas (ι := Nat × List (List Int)) (H := hkA band bor [] []) (fn := Tryz.f126) (i := 0) (ts := [0, 2]) (ks := [1000000]) (ZaJ .nil) mixed (Zae rfl)
    (fun p => ZaQ n kn p.1 (mZ p.2)) (fun p => p.1 ≤ n ∧ wid 3 p.2 ∧ p.2.length = l.length) (fun p => n - p.1) (0, l) (Zc6 n kn) (Zc6 n kn) (fun p hp => ?_) ⟨Nat.zero_le _, hw, rfl⟩ h1
  obtain ⟨i, m⟩ := p
  obtain ⟨hi, hm, hml⟩ := hp
  simp only at hi hm hml ⊢
  show ZaA band bor Tryz.prog _ _ Tryz.f126 0 _ _ _ _ _ _ _
  rw [ZkL]
  by_cases hl : i < n
  · have wi : IntKind.wrap .i64 ((i : Int) + 1) = ((i + 1 : Nat) : Int) := Zaj (n := 1) (by omega)
    have hlm : i < m.length := by omega
    have hj := Zb9 (j := 1) hm hlm (by omega)
    have hrow := ZaC hm hlm
    have hd1 : (1 + 1 ≤ 3) = True := by simp
    simp only [Int.ofNat_lt, hl, decide_true, cond_true, Int.natCast_nonneg, Bool.and_self, Int.toNat_natCast, addN, Zai, hlm, hj, ZbS, wi, hd1, true_and]
    rw [Zek, Zf7 _ _ _ (by omega), Zks]
    exact ⟨(i + 1, _), by simp; omega, ⟨hl, ZgE hm (by rw [List.length_set, hrow]), by rw [List.length_set, hml]⟩, rfl⟩
  · have e : ¬ ((i : Int) < (n : Int)) := by omega
    simp only [e, decide_false, cond_false, true_and]
    exact h2 _ _
def Zel : Spec := fun ds Q => match ds with
  | [.c (.s 1 3 R sp)] => cond (okZ 3 (R ++ sp)) (Q (.tup [])) False
  | [.c (.v (.slice none 0 0))] => Q (.tup [])
  | _ => False
theorem ZlG : Zad Tryz.prog 126 Zel := o_of Tryz.func126 (by kernel_rfl) rfl fun ds Q h => by
  unfold Zel at h; split at h
  · rename_i R sp
    obtain ⟨h1, h2⟩ := Zag h
    obtain ⟨e1, w1, n1⟩ := Zah h1
    refine ⟨_, ZaB (l := []) (m := [(1, Zc3 R.length (R.length + sp.length) (R ++ sp))]) .nil mixed (Za9 rfl (by kernel_rfl) (by rw [e1]; exact Zif w1 (by rw [Zan]; simp) (by rw [Zan]; exact n1))) Tryz.func126 rfl rfl (by simp [DV.fit32, DV.width]) ?_, rfl, rfl, h2⟩
    rw [ZlC]
    exact ⟨rfl, fun _ _ => rfl⟩
  · refine ⟨_, Zak .nil mixed Tryz.func126 rfl rfl rfl ?_, rfl, rfl, h⟩
    rw [Zki]
  · exact h.elim
theorem ZlP (R sp : List (List D)) (K : DV → Prop) : (ask Tryz.prog [] Tryz.f149 [dS 3 R sp] K) = ((bif Nat.beq (List.length R) (OfNat.ofNat (0)) then K (DV.c (D.s (1) (3) [] [])) else True) ∧ bif allV R then bif true && (decide ((0 + List.length R) * 24 ≤ 140737488355328) && decide (0 + List.length R ≤ 9223372036854775807)) then bif decide (0 + List.length R ≤ List.length ([] ++ R)) && List.all ([] ++ R) fun r => List.all r D.keeps then K (DV.c (D.s (1) (3) (List.take (0 + List.length R) ([] ++ R)) (List.take (0 + List.length R - (0 + List.length R)) (List.drop (0 + List.length R) ([] ++ R))))) else False else False else False) := by kernel_rfl
def Zev : Spec := fun ds Q => match ds with | [.c (.s 0 3 R sp)] => cond (allV R && decide (R.length ≤ 5864062014635)) (Q (.c (.s 1 3 R []))) False | _ => False
theorem Zls : Zad Tryz.prog 149 Zev := o_of Tryz.func149 (by kernel_rfl) rfl fun ds Q h => by
  unfold Zev at h; split at h
  · rename_i R sp
    obtain ⟨h1, h2⟩ := Zag h
    simp only [Bool.and_eq_true, decide_eq_true_eq] at h1
    refine ⟨_, Zak .nil mixed Tryz.func149 rfl rfl rfl ?_, by simp [DV.pureOwn, DV.pure1, D.pureOwn, ZaE h1.1]; rfl, rfl, h2⟩
    rw [ZlP]
    have g1 : (0 + R.length) * 24 ≤ 140737488355328 := by omega
    have g2 : 0 + R.length ≤ 9223372036854775807 := by omega
    refine ⟨?_, ?_⟩
    · cases R with
      | nil => exact (rfl : DV.c (D.s 1 3 [] []) = DV.c (D.s 1 3 [] []))
      | cons r R => exact trivial
    · simp [h1.1, Zao h1.1]
      exact ⟨by omega, by omega⟩
  · exact h.elim
def Zaw (R sp R' sp' : List (List D)) (i : Int) (p : Bool) : X := ⟨mkT 26 [(0, aS 3 R sp), (1, aS 3 R' sp'), (4, ab p), (5, ai i)], [], [], []⟩
def Zdd (R sp R' sp' : List (List D)) (y : X) : X := Zaw R sp R' sp' (ZbY y 5) (Zjf y 4)
theorem Zj3 (R sp R' sp' : List (List D)) (i : Int) (p : Bool) (N : X → Prop) (E : Exit → X → Prop) : (ZaA band bor Tryz.prog [] [] Tryz.f45 0 [0, 1, 4, 5] [] (Zdd R sp R' sp') (Zdd R sp R' sp') N E (Zaw R sp R' sp' i p)) = (bif decide (i < @Nat.cast Int _ (List.length R)) then bif decide (0 ≤ i) && decide (i < @Nat.cast Int _ (List.length R)) then bif isJ [IntKind.i64, IntKind.i64, IntKind.i64] (List.drop (0) (List.getD R (Int.toNat i) [])) then bif decide (0 ≤ i) && decide (i < @Nat.cast Int _ (List.length R')) then bif isJ [IntKind.i64, IntKind.i64, IntKind.i64] (List.drop (0) (List.getD R' (Int.toNat i) [])) then bif !eqI [hdJ (List.drop (0) (List.getD R (Int.toNat i) [])), hdJ (List.tail (List.drop (0) (List.getD R (Int.toNat i) []))), hdJ (List.tail (List.tail (List.drop (0) (List.getD R (Int.toNat i) []))))] [hdJ (List.drop (0) (List.getD R' (Int.toNat i) [])), hdJ (List.tail (List.drop (0) (List.getD R' (Int.toNat i) []))), hdJ (List.tail (List.tail (List.drop (0) (List.getD R' (Int.toNat i) []))))] then Zaw R sp R' sp' i false = Zaw R sp R' sp' i false ∧ E Exit.ret (Zaw R sp R' sp' i false) else Zaw R sp R' sp' (IntKind.wrap IntKind.i64 (i + 1)) p = Zaw R sp R' sp' (IntKind.wrap IntKind.i64 (i + 1)) p ∧ N (Zaw R sp R' sp' (IntKind.wrap IntKind.i64 (i + 1)) p) else False else False else False else False else Zaw R sp R' sp' i p = Zaw R sp R' sp' i p ∧ E (Exit.exit (0)) (Zaw R sp R' sp' i p)) := by kernel_rfl
def Zdf (l l' : List (List Int)) (sp sp' : List (List D)) : LSum := fun Q x => x.only [0, 1, 4, 5] [] = Zaw (mZ l) sp (mZ l') sp' 0 false ∧ (l = l' → Q (.exit 0) (Zaw (mZ l) sp (mZ l') sp' l.length false)) ∧ (l ≠ l' → ∀ i : Int, Q .ret (Zaw (mZ l) sp (mZ l') sp' i false))
theorem Zlj (l l' : List (List Int)) (sp sp' : List (List D)) (K : DV → Prop) : (askL Tryz.prog [] [(4, Zdf l l' sp sp')] Tryz.f45 [dS 3 (mZ l) sp, dS 3 (mZ l') sp'] K) = (bif @Nat.cast Int _ (List.length (mZ l)) != @Nat.cast Int _ (List.length (mZ l')) then K (DV.c (D.v (Value.bool false))) else Zaw (mZ l) sp (mZ l') sp' (0) false = Zaw (mZ l) sp (mZ l') sp' (0) false ∧ (l = l' → K (DV.c (D.v (Value.bool true)))) ∧ (l ≠ l' → ∀ (i : Int), K (DV.c (D.v (Value.bool false))))) := by kernel_rfl
theorem ZjF (l l' : List (List Int)) (sp sp' : List (List D)) (K : DV → Prop) : (askL Tryz.prog [] [(4, fun _ _ => False)] Tryz.f45 [dS 3 (mZ l) sp, dS 3 (mZ l') sp'] K) = (bif @Nat.cast Int _ (List.length (mZ l)) != @Nat.cast Int _ (List.length (mZ l')) then K (DV.c (D.v (Value.bool false))) else False) := by kernel_rfl
theorem Zi3 {l l' : List (List Int)} {sp sp' : List (List D)} (hw : wid 3 l) (hw' : wid 3 l') (hlen : l.length = l'.length) (hn : l.length ≤ 9223372036854775807) (Q : Exit → X → Prop) (x : X) (h : Zdf l l' sp sp' Q x) : XWP Tryz.prog (.loop (Zal Tryz.f45 0)) Q x := by
  obtain ⟨h1, h2, h3⟩ := h
  refine Zas (ι := Nat) (H := hkA band bor [] []) (fn := Tryz.f45) (i := 0) (ts := [0, 1, 4, 5]) (ks := []) (ZaJ .nil) mixed (Zae rfl)
    (fun i => Zaw (mZ l) sp (mZ l') sp' i false) (fun i => i ≤ l.length ∧ ∀ j, j < i → l.getD j [] = l'.getD j []) (fun i => l.length - i) 0 (Zdd (mZ l) sp (mZ l') sp') (Zdd (mZ l) sp (mZ l') sp') (fun i hp => ?_) ⟨Nat.zero_le _, fun j hj => by omega⟩ h1
  obtain ⟨hi, hj⟩ := hp
  show ZaA band bor Tryz.prog _ _ Tryz.f45 0 _ _ _ _ _ _ _
  rw [Zj3]
  by_cases hl : i < l.length
  · have wi : IntKind.wrap .i64 ((i : Int) + 1) = ((i + 1 : Nat) : Int) := Zaj (n := 1) (by omega)
    have hl' : i < l'.length := by omega
    have hj1 : isJ [IntKind.i64, IntKind.i64, IntKind.i64] ((mZ l).getD i []) = true := Zau (j := 0) (n := 3) hw hl (by omega)
    have hj2 : isJ [IntKind.i64, IntKind.i64, IntKind.i64] ((mZ l').getD i []) = true := Zau (j := 0) (n := 3) hw' hl' (by omega)
    have he := Zfx (l.getD i []) (l'.getD i []) (by rw [ZaC hw hl, ZaC hw' hl'])
    rw [← row3 (ZaC hw hl), ← row3 (ZaC hw' hl')] at he
    simp only [Zai, Int.ofNat_lt, hl, hl', decide_true, cond_true, Int.natCast_nonneg, Bool.and_self, Int.toNat_natCast, ZaV, ZaT, Zbn, hj1, hj2, List.drop_zero, ZaF, true_and, wi, he]
    rw [row3 (ZaC hw hl), row3 (ZaC hw' hl')]
    by_cases hee : l.getD i [] = l'.getD i []
    · rw [decide_eq_true hee]
      refine ⟨i + 1, by omega, ⟨hl, fun j hji => ?_⟩, rfl⟩
      rcases Nat.lt_succ_iff_lt_or_eq.1 hji with hji | rfl
      · exact hj j hji
      · exact hee
    · rw [decide_eq_false hee]
      exact h3 (fun e => hee (by rw [e])) _
  · have e : i = l.length := by omega
    subst e
    simp only [Zai, Int.ofNat_lt, Nat.lt_irrefl, decide_false, cond_false, true_and]
    exact h2 (ZeF hlen fun j h => hj j h)
theorem ZlN {l l' : List (List Int)} {sp sp' : List (List D)} (hw : wid 3 l) (hw' : wid 3 l') (hn : l.length ≤ 9223372036854775807) : CT Tryz.prog 45 [dS 3 (mZ l) sp, dS 3 (mZ l') sp'] (B (decide (l = l'))) := by
  by_cases hlen : l.length = l'.length
  · refine ZaB (l := []) (m := [(4, Zdf l l' sp sp')]) .nil mixed (Za9 rfl (by kernel_rfl) (Zi3 hw hw' hlen hn)) Tryz.func45 rfl rfl rfl ?_
    rw [Zlj]
    have : (((mZ l).length : Int) != ((mZ l').length : Int)) = false := by simp [Zai, hlen]
    rw [this]
    by_cases he : l = l'
    · simp [he]
    · simp [he]
  · refine ZaB (l := []) (m := [(4, fun _ _ => False)]) .nil mixed (Za9 rfl (by kernel_rfl) (fun _ _ h => h.elim)) Tryz.func45 rfl rfl rfl ?_
    rw [ZjF]
    have : (((mZ l).length : Int) != ((mZ l').length : Int)) = true := by simp [Zai]; omega
    rw [this]
    have : l ≠ l' := fun e => hlen (by rw [e])
    simp [this]
def Zeq : Spec := fun ds Q => match ds with | [.c (.s 0 3 R sp), .c (.s 0 3 R' sp')] => cond (okZ 3 R && okZ 3 R') (Q (B (decide (toZ R = toZ R')))) False | _ => False
theorem Zmk : Zad Tryz.prog 45 Zeq := o_of Tryz.func45 (by kernel_rfl) rfl fun ds Q h => by
  unfold Zeq at h; split at h
  · rename_i R sp R' sp'
    obtain ⟨h1, h2⟩ := Zag h
    simp only [Bool.and_eq_true] at h1
    obtain ⟨e1, w1, n1⟩ := Zah h1.1
    obtain ⟨e2, w2, n2⟩ := Zah h1.2
    rw [e1, e2]
    rw [Zan R |>.symm] at n1
    generalize toZ R = l at *
    generalize toZ R' = l' at *
    exact ⟨_, ZlN w1 w2 n1, rfl, rfl, h2⟩
  · exact h.elim
def ZaK (n kn : Nat) (i : Int) (W : List (List D)) : X := ⟨mkT 19 [(0, .c (.rs 1000000 0 3 0 n kn)), (2, ai i)], [(1000000, .sl 0 3 W)], [], []⟩
def ZcD (n kn : Nat) (y : X) : X := ZaK n kn (ZbY y 2) (Zfn y 1000000)
theorem Zie (n kn : Nat) (i : Int) (W : List (List D)) (N : X → Prop) (E : Exit → X → Prop) : (ZaA band bor Tryz.prog [] [] Tryz.f127 0 [0, 2] [1000000] (ZcD n kn) (ZcD n kn) N E (ZaK n kn i W)) = (bif decide (i < @Nat.cast Int _ n) then bif decide (0 ≤ i) && decide (i < @Nat.cast Int _ n) then bif decide (addN (0) (Int.toNat i) < List.length W) then bif isJ [IntKind.i64] (List.drop (1) (List.getD W (addN (0) (Int.toNat i)) [])) then bif decide (0 ≤ i) && decide (i < @Nat.cast Int _ n) then bif decide (addN (0) (Int.toNat i) < List.length W) && decide (1 + 1 ≤ 3) then ZaK n kn (IntKind.wrap IntKind.i64 (i + 1)) (List.set W (addN (0) (Int.toNat i)) (splice (List.getD W (addN (0) (Int.toNat i)) []) (1) [D.v (Value.int IntKind.i64 (bxor (hdJ (List.drop (1) (List.getD W (addN (0) (Int.toNat i)) []))) (90)))])) = ZaK n kn (IntKind.wrap IntKind.i64 (i + 1)) (List.set W (addN (0) (Int.toNat i)) (splice (List.getD W (addN (0) (Int.toNat i)) []) (1) [D.v (Value.int IntKind.i64 (bxor (hdJ (List.drop (1) (List.getD W (addN (0) (Int.toNat i)) []))) (90)))])) ∧ N (ZaK n kn (IntKind.wrap IntKind.i64 (i + 1)) (List.set W (addN (0) (Int.toNat i)) (splice (List.getD W (addN (0) (Int.toNat i)) []) (1) [D.v (Value.int IntKind.i64 (bxor (hdJ (List.drop (1) (List.getD W (addN (0) (Int.toNat i)) []))) (90)))]))) else False else False else False else False else False else ZaK n kn i W = ZaK n kn i W ∧ E (Exit.exit (0)) (ZaK n kn i W)) := by kernel_rfl
def ZcM (n kn : Nat) (W0 : List (List D)) : LSum := fun Q y => y.only [0, 2] [1000000] = ZaK n kn 0 W0 ∧ ∀ i W, Q (.exit 0) (ZaK n kn i W)
theorem Zkn (R sp : List (List D)) (K : DV → Prop) : (askL Tryz.prog [] [(1, ZcM R.length (R.length + sp.length) (R ++ sp))] Tryz.f127 [oS 3 R sp] K) = (ZaK (List.length R) (List.length R + List.length sp) (0) (R ++ sp) = ZaK (List.length R) (List.length R + List.length sp) (0) (R ++ sp) ∧ ∀ (i : Int) (W : List (List D)), K (DV.tup [])) := by kernel_rfl
theorem Ziv (K : DV → Prop) : (ask Tryz.prog [] Tryz.f127 [.c (.v (.slice none 0 0))] K) = (K (DV.tup [])) := by kernel_rfl
theorem Zhl {n kn : Nat} {l : List (List Int)} (hw : wid 3 l) (hnl : n ≤ l.length) (hn : l.length ≤ 9223372036854775807) (Q : Exit → X → Prop) (x : X) (h : ZcM n kn (mZ l) Q x) : XWP Tryz.prog (.loop (Zal Tryz.f127 0)) Q x := by
  obtain ⟨h1, h2⟩ := h
  refine Zas (ι := Nat × List (List Int)) (H := hkA band bor [] []) (fn := Tryz.f127) (i := 0) (ts := [0, 2]) (ks := [1000000]) (ZaJ .nil) mixed (Zae rfl)
    (fun p => ZaK n kn p.1 (mZ p.2)) (fun p => p.1 ≤ n ∧ wid 3 p.2 ∧ p.2.length = l.length) (fun p => n - p.1) (0, l) (ZcD n kn) (ZcD n kn) (fun p hp => ?_) ⟨Nat.zero_le _, hw, rfl⟩ h1
  obtain ⟨i, m⟩ := p
  obtain ⟨hi, hm, hml⟩ := hp
  simp only at hi hm hml ⊢
  show ZaA band bor Tryz.prog _ _ Tryz.f127 0 _ _ _ _ _ _ _
  rw [Zie]
  by_cases hl : i < n
  · have wi : IntKind.wrap .i64 ((i : Int) + 1) = ((i + 1 : Nat) : Int) := Zaj (n := 1) (by omega)
    have hlm : i < m.length := by omega
    have hj := Zb9 (j := 1) hm hlm (by omega)
    have hrow := ZaC hm hlm
    have hd1 : (1 + 1 ≤ 3) = True := by simp
    simp only [Int.ofNat_lt, hl, decide_true, cond_true, Int.natCast_nonneg, Bool.and_self, Int.toNat_natCast, addN, Zai, hlm, hj, ZbS, wi, hd1, true_and]
    rw [Zek, Zf7 _ _ _ (by omega), Zks]
    exact ⟨(i + 1, _), by simp; omega, ⟨hl, ZgE hm (by rw [List.length_set, hrow]), by rw [List.length_set, hml]⟩, rfl⟩
  · have e : ¬ ((i : Int) < (n : Int)) := by omega
    simp only [e, decide_false, cond_false, true_and]
    exact h2 _ _
def ZdG : Spec := fun ds Q => match ds with
  | [.c (.s 1 3 R sp)] => cond (okZ 3 (R ++ sp)) (Q (.tup [])) False
  | [.c (.v (.slice none 0 0))] => Q (.tup [])
  | _ => False
theorem Zku : Zad Tryz.prog 127 ZdG := o_of Tryz.func127 (by kernel_rfl) rfl fun ds Q h => by
  unfold ZdG at h; split at h
  · rename_i R sp
    obtain ⟨h1, h2⟩ := Zag h
    obtain ⟨e1, w1, n1⟩ := Zah h1
    refine ⟨_, ZaB (l := []) (m := [(1, ZcM R.length (R.length + sp.length) (R ++ sp))]) .nil mixed (Za9 rfl (by kernel_rfl) (by rw [e1]; exact Zhl w1 (by rw [Zan]; simp) (by rw [Zan]; exact n1))) Tryz.func127 rfl rfl (by simp [DV.fit32, DV.width]) ?_, rfl, rfl, h2⟩
    rw [Zkn]
    exact ⟨rfl, fun _ _ => rfl⟩
  · refine ⟨_, Zak .nil mixed Tryz.func127 rfl rfl rfl ?_, rfl, rfl, h⟩
    rw [Ziv]
  · exact h.elim
theorem Zk1 (R sp : List (List D)) (K : DV → Prop) : (ask Tryz.prog [] Tryz.f137 [dS 3 R sp] K) = ((bif Nat.beq (List.length R) (OfNat.ofNat (0)) then K (DV.c (D.s (1) (3) [] [])) else True) ∧ bif allV R then bif true && (decide ((0 + List.length R) * 24 ≤ 140737488355328) && decide (0 + List.length R ≤ 9223372036854775807)) then bif decide (0 + List.length R ≤ List.length ([] ++ R)) && List.all ([] ++ R) fun r => List.all r D.keeps then K (DV.c (D.s (1) (3) (List.take (0 + List.length R) ([] ++ R)) (List.take (0 + List.length R - (0 + List.length R)) (List.drop (0 + List.length R) ([] ++ R))))) else False else False else False) := by kernel_rfl
def Zdy : Spec := fun ds Q => match ds with | [.c (.s 0 3 R sp)] => cond (allV R && decide (R.length ≤ 5864062014635)) (Q (.c (.s 1 3 R []))) False | _ => False
theorem Zjw : Zad Tryz.prog 137 Zdy := o_of Tryz.func137 (by kernel_rfl) rfl fun ds Q h => by
  unfold Zdy at h; split at h
  · rename_i R sp
    obtain ⟨h1, h2⟩ := Zag h
    simp only [Bool.and_eq_true, decide_eq_true_eq] at h1
    refine ⟨_, Zak .nil mixed Tryz.func137 rfl rfl rfl ?_, by simp [DV.pureOwn, DV.pure1, D.pureOwn, ZaE h1.1]; rfl, rfl, h2⟩
    rw [Zk1]
    have g1 : (0 + R.length) * 24 ≤ 140737488355328 := by omega
    have g2 : 0 + R.length ≤ 9223372036854775807 := by omega
    refine ⟨?_, ?_⟩
    · cases R with
      | nil => exact (rfl : DV.c (D.s 1 3 [] []) = DV.c (D.s 1 3 [] []))
      | cons r R => exact trivial
    · simp [h1.1, Zao h1.1]
      exact ⟨by omega, by omega⟩
  · exact h.elim
def ZaG (R sp R' sp' : List (List D)) (i : Int) (p : Bool) : X := ⟨mkT 26 [(0, aS 3 R sp), (1, aS 3 R' sp'), (4, ab p), (5, ai i)], [], [], []⟩
def Zd0 (R sp R' sp' : List (List D)) (y : X) : X := ZaG R sp R' sp' (ZbY y 5) (Zjf y 4)
theorem Zk6 (R sp R' sp' : List (List D)) (i : Int) (p : Bool) (N : X → Prop) (E : Exit → X → Prop) : (ZaA band bor Tryz.prog [] [] Tryz.f88 0 [0, 1, 4, 5] [] (Zd0 R sp R' sp') (Zd0 R sp R' sp') N E (ZaG R sp R' sp' i p)) = (bif decide (i < @Nat.cast Int _ (List.length R)) then bif decide (0 ≤ i) && decide (i < @Nat.cast Int _ (List.length R)) then bif isJ [IntKind.i64, IntKind.i64, IntKind.i64] (List.drop (0) (List.getD R (Int.toNat i) [])) then bif decide (0 ≤ i) && decide (i < @Nat.cast Int _ (List.length R')) then bif isJ [IntKind.i64, IntKind.i64, IntKind.i64] (List.drop (0) (List.getD R' (Int.toNat i) [])) then bif !eqI [hdJ (List.drop (0) (List.getD R (Int.toNat i) [])), hdJ (List.tail (List.drop (0) (List.getD R (Int.toNat i) []))), hdJ (List.tail (List.tail (List.drop (0) (List.getD R (Int.toNat i) []))))] [hdJ (List.drop (0) (List.getD R' (Int.toNat i) [])), hdJ (List.tail (List.drop (0) (List.getD R' (Int.toNat i) []))), hdJ (List.tail (List.tail (List.drop (0) (List.getD R' (Int.toNat i) []))))] then ZaG R sp R' sp' i false = ZaG R sp R' sp' i false ∧ E Exit.ret (ZaG R sp R' sp' i false) else ZaG R sp R' sp' (IntKind.wrap IntKind.i64 (i + 1)) p = ZaG R sp R' sp' (IntKind.wrap IntKind.i64 (i + 1)) p ∧ N (ZaG R sp R' sp' (IntKind.wrap IntKind.i64 (i + 1)) p) else False else False else False else False else ZaG R sp R' sp' i p = ZaG R sp R' sp' i p ∧ E (Exit.exit (0)) (ZaG R sp R' sp' i p)) := by kernel_rfl
def Zdx (l l' : List (List Int)) (sp sp' : List (List D)) : LSum := fun Q x => x.only [0, 1, 4, 5] [] = ZaG (mZ l) sp (mZ l') sp' 0 false ∧ (l = l' → Q (.exit 0) (ZaG (mZ l) sp (mZ l') sp' l.length false)) ∧ (l ≠ l' → ∀ i : Int, Q .ret (ZaG (mZ l) sp (mZ l') sp' i false))
theorem ZnJ (l l' : List (List Int)) (sp sp' : List (List D)) (K : DV → Prop) : (askL Tryz.prog [] [(4, Zdx l l' sp sp')] Tryz.f88 [dS 3 (mZ l) sp, dS 3 (mZ l') sp'] K) = (bif @Nat.cast Int _ (List.length (mZ l)) != @Nat.cast Int _ (List.length (mZ l')) then K (DV.c (D.v (Value.bool false))) else ZaG (mZ l) sp (mZ l') sp' (0) false = ZaG (mZ l) sp (mZ l') sp' (0) false ∧ (l = l' → K (DV.c (D.v (Value.bool true)))) ∧ (l ≠ l' → ∀ (i : Int), K (DV.c (D.v (Value.bool false))))) := by kernel_rfl
theorem Zlb (l l' : List (List Int)) (sp sp' : List (List D)) (K : DV → Prop) : (askL Tryz.prog [] [(4, fun _ _ => False)] Tryz.f88 [dS 3 (mZ l) sp, dS 3 (mZ l') sp'] K) = (bif @Nat.cast Int _ (List.length (mZ l)) != @Nat.cast Int _ (List.length (mZ l')) then K (DV.c (D.v (Value.bool false))) else False) := by kernel_rfl
theorem ZkS {l l' : List (List Int)} {sp sp' : List (List D)} (hw : wid 3 l) (hw' : wid 3 l') (hlen : l.length = l'.length) (hn : l.length ≤ 9223372036854775807) (Q : Exit → X → Prop) (x : X) (h : Zdx l l' sp sp' Q x) : XWP Tryz.prog (.loop (Zal Tryz.f88 0)) Q x := by
  obtain ⟨h1, h2, h3⟩ := h
  refine Zas (ι := Nat) (H := hkA band bor [] []) (fn := Tryz.f88) (i := 0) (ts := [0, 1, 4, 5]) (ks := []) (ZaJ .nil) mixed (Zae rfl)
    (fun i => ZaG (mZ l) sp (mZ l') sp' i false) (fun i => i ≤ l.length ∧ ∀ j, j < i → l.getD j [] = l'.getD j []) (fun i => l.length - i) 0 (Zd0 (mZ l) sp (mZ l') sp') (Zd0 (mZ l) sp (mZ l') sp') (fun i hp => ?_) ⟨Nat.zero_le _, fun j hj => by omega⟩ h1
  obtain ⟨hi, hj⟩ := hp
  show ZaA band bor Tryz.prog _ _ Tryz.f88 0 _ _ _ _ _ _ _
  rw [Zk6]
  by_cases hl : i < l.length
  · have wi : IntKind.wrap .i64 ((i : Int) + 1) = ((i + 1 : Nat) : Int) := Zaj (n := 1) (by omega)
    have hl' : i < l'.length := by omega
    have hj1 : isJ [IntKind.i64, IntKind.i64, IntKind.i64] ((mZ l).getD i []) = true := Zau (j := 0) (n := 3) hw hl (by omega)
    have hj2 : isJ [IntKind.i64, IntKind.i64, IntKind.i64] ((mZ l').getD i []) = true := Zau (j := 0) (n := 3) hw' hl' (by omega)
    have he := Zfx (l.getD i []) (l'.getD i []) (by rw [ZaC hw hl, ZaC hw' hl'])
    rw [← row3 (ZaC hw hl), ← row3 (ZaC hw' hl')] at he
    simp only [Zai, Int.ofNat_lt, hl, hl', decide_true, cond_true, Int.natCast_nonneg, Bool.and_self, Int.toNat_natCast, ZaV, ZaT, Zbn, hj1, hj2, List.drop_zero, ZaF, true_and, wi, he]
    rw [row3 (ZaC hw hl), row3 (ZaC hw' hl')]
    by_cases hee : l.getD i [] = l'.getD i []
    · rw [decide_eq_true hee]
      refine ⟨i + 1, by omega, ⟨hl, fun j hji => ?_⟩, rfl⟩
      rcases Nat.lt_succ_iff_lt_or_eq.1 hji with hji | rfl
      · exact hj j hji
      · exact hee
    · rw [decide_eq_false hee]
      exact h3 (fun e => hee (by rw [e])) _
  · have e : i = l.length := by omega
    subst e
    simp only [Zai, Int.ofNat_lt, Nat.lt_irrefl, decide_false, cond_false, true_and]
    exact h2 (ZeF hlen fun j h => hj j h)
theorem Zny {l l' : List (List Int)} {sp sp' : List (List D)} (hw : wid 3 l) (hw' : wid 3 l') (hn : l.length ≤ 9223372036854775807) : CT Tryz.prog 88 [dS 3 (mZ l) sp, dS 3 (mZ l') sp'] (B (decide (l = l'))) := by
  by_cases hlen : l.length = l'.length
  · refine ZaB (l := []) (m := [(4, Zdx l l' sp sp')]) .nil mixed (Za9 rfl (by kernel_rfl) (ZkS hw hw' hlen hn)) Tryz.func88 rfl rfl rfl ?_
    rw [ZnJ]
    have : (((mZ l).length : Int) != ((mZ l').length : Int)) = false := by simp [Zai, hlen]
    rw [this]
    by_cases he : l = l'
    · simp [he]
    · simp [he]
  · refine ZaB (l := []) (m := [(4, fun _ _ => False)]) .nil mixed (Za9 rfl (by kernel_rfl) (fun _ _ h => h.elim)) Tryz.func88 rfl rfl rfl ?_
    rw [Zlb]
    have : (((mZ l).length : Int) != ((mZ l').length : Int)) = true := by simp [Zai]; omega
    rw [this]
    have : l ≠ l' := fun e => hlen (by rw [e])
    simp [this]
def Ze8 : Spec := fun ds Q => match ds with | [.c (.s 0 3 R sp), .c (.s 0 3 R' sp')] => cond (okZ 3 R && okZ 3 R') (Q (B (decide (toZ R = toZ R')))) False | _ => False
theorem ZnU : Zad Tryz.prog 88 Ze8 := o_of Tryz.func88 (by kernel_rfl) rfl fun ds Q h => by
  unfold Ze8 at h; split at h
  · rename_i R sp R' sp'
    obtain ⟨h1, h2⟩ := Zag h
    simp only [Bool.and_eq_true] at h1
    obtain ⟨e1, w1, n1⟩ := Zah h1.1
    obtain ⟨e2, w2, n2⟩ := Zah h1.2
    rw [e1, e2]
    rw [Zan R |>.symm] at n1
    generalize toZ R = l at *
    generalize toZ R' = l' at *
    exact ⟨_, Zny w1 w2 n1, rfl, rfl, h2⟩
  · exact h.elim
def ZaS (n kn : Nat) (i : Int) (W : List (List D)) : X := ⟨mkT 19 [(0, .c (.rs 1000000 0 3 0 n kn)), (2, ai i)], [(1000000, .sl 0 3 W)], [], []⟩
def ZcZ (n kn : Nat) (y : X) : X := ZaS n kn (ZbY y 2) (Zfn y 1000000)
theorem ZkH (n kn : Nat) (i : Int) (W : List (List D)) (N : X → Prop) (E : Exit → X → Prop) : (ZaA band bor Tryz.prog [] [] Tryz.f124 0 [0, 2] [1000000] (ZcZ n kn) (ZcZ n kn) N E (ZaS n kn i W)) = (bif decide (i < @Nat.cast Int _ n) then bif decide (0 ≤ i) && decide (i < @Nat.cast Int _ n) then bif decide (addN (0) (Int.toNat i) < List.length W) then bif isJ [IntKind.i64] (List.drop (0) (List.getD W (addN (0) (Int.toNat i)) [])) then bif decide (0 ≤ i) && decide (i < @Nat.cast Int _ n) then bif decide (addN (0) (Int.toNat i) < List.length W) && decide (0 + 1 ≤ 3) then ZaS n kn (IntKind.wrap IntKind.i64 (i + 1)) (List.set W (addN (0) (Int.toNat i)) (D.v (Value.int IntKind.i64 (bxor (hdJ (List.drop (0) (List.getD W (addN (0) (Int.toNat i)) []))) (90))) :: List.drop (0 + 1) (List.getD W (addN (0) (Int.toNat i)) []))) = ZaS n kn (IntKind.wrap IntKind.i64 (i + 1)) (List.set W (addN (0) (Int.toNat i)) (D.v (Value.int IntKind.i64 (bxor (hdJ (List.drop (0) (List.getD W (addN (0) (Int.toNat i)) []))) (90))) :: List.drop (0 + 1) (List.getD W (addN (0) (Int.toNat i)) []))) ∧ N (ZaS n kn (IntKind.wrap IntKind.i64 (i + 1)) (List.set W (addN (0) (Int.toNat i)) (D.v (Value.int IntKind.i64 (bxor (hdJ (List.drop (0) (List.getD W (addN (0) (Int.toNat i)) []))) (90))) :: List.drop (0 + 1) (List.getD W (addN (0) (Int.toNat i)) [])))) else False else False else False else False else False else ZaS n kn i W = ZaS n kn i W ∧ E (Exit.exit (0)) (ZaS n kn i W)) := by kernel_rfl
theorem Zhh (v : Int) (r : List Int) (h : 0 < r.length) : D.v (Value.int IntKind.i64 v) :: List.drop (0 + 1) (r.map vI) = (r.set 0 v).map vI := by
  cases r with
  | nil => simp at h
  | cons a r => simp [vI, vi]
def Zc1 (n kn : Nat) (W0 : List (List D)) : LSum := fun Q y => y.only [0, 2] [1000000] = ZaS n kn 0 W0 ∧ ∀ i W, Q (.exit 0) (ZaS n kn i W)
theorem Zle (R sp : List (List D)) (K : DV → Prop) : (askL Tryz.prog [] [(1, Zc1 R.length (R.length + sp.length) (R ++ sp))] Tryz.f124 [oS 3 R sp] K) = (ZaS (List.length R) (List.length R + List.length sp) (0) (R ++ sp) = ZaS (List.length R) (List.length R + List.length sp) (0) (R ++ sp) ∧ ∀ (i : Int) (W : List (List D)), K (DV.tup [])) := by kernel_rfl
theorem Zj2 (K : DV → Prop) : (ask Tryz.prog [] Tryz.f124 [.c (.v (.slice none 0 0))] K) = (K (DV.tup [])) := by kernel_rfl
theorem ZiA {n kn : Nat} {l : List (List Int)} (hw : wid 3 l) (hnl : n ≤ l.length) (hn : l.length ≤ 9223372036854775807) (Q : Exit → X → Prop) (x : X) (h : Zc1 n kn (mZ l) Q x) : XWP Tryz.prog (.loop (Zal Tryz.f124 0)) Q x := by
  obtain ⟨h1, h2⟩ := h
  refine Zas (ι := Nat × List (List Int)) (H := hkA band bor [] []) (fn := Tryz.f124) (i := 0) (ts := [0, 2]) (ks := [1000000]) (ZaJ .nil) mixed (Zae rfl)
    (fun p => ZaS n kn p.1 (mZ p.2)) (fun p => p.1 ≤ n ∧ wid 3 p.2 ∧ p.2.length = l.length) (fun p => n - p.1) (0, l) (ZcZ n kn) (ZcZ n kn) (fun p hp => ?_) ⟨Nat.zero_le _, hw, rfl⟩ h1
  obtain ⟨i, m⟩ := p
  obtain ⟨hi, hm, hml⟩ := hp
  simp only at hi hm hml ⊢
  show ZaA band bor Tryz.prog _ _ Tryz.f124 0 _ _ _ _ _ _ _
  rw [ZkH]
  by_cases hl : i < n
  · have wi : IntKind.wrap .i64 ((i : Int) + 1) = ((i + 1 : Nat) : Int) := Zaj (n := 1) (by omega)
    have hlm : i < m.length := by omega
    have hj := Zb9 (j := 0) hm hlm (by omega)
    have hrow := ZaC hm hlm
    have hd1 : (0 + 1 ≤ 3) = True := by simp
    simp only [Int.ofNat_lt, hl, decide_true, cond_true, Int.natCast_nonneg, Bool.and_self, Int.toNat_natCast, addN, Zai, hlm, hj, ZbS, wi, hd1, true_and]
    rw [Zek, Zhh _ _ (by rw [hrow]; omega), Zks]
    exact ⟨(i + 1, _), by simp; omega, ⟨hl, ZgE hm (by rw [List.length_set, hrow]), by rw [List.length_set, hml]⟩, rfl⟩
  · have e : ¬ ((i : Int) < (n : Int)) := by omega
    simp only [e, decide_false, cond_false, true_and]
    exact h2 _ _
def Zec : Spec := fun ds Q => match ds with
  | [.c (.s 1 3 R sp)] => cond (okZ 3 (R ++ sp)) (Q (.tup [])) False
  | [.c (.v (.slice none 0 0))] => Q (.tup [])
  | _ => False
theorem Zmu : Zad Tryz.prog 124 Zec := o_of Tryz.func124 (by kernel_rfl) rfl fun ds Q h => by
  unfold Zec at h; split at h
  · rename_i R sp
    obtain ⟨h1, h2⟩ := Zag h
    obtain ⟨e1, w1, n1⟩ := Zah h1
    refine ⟨_, ZaB (l := []) (m := [(1, Zc1 R.length (R.length + sp.length) (R ++ sp))]) .nil mixed (Za9 rfl (by kernel_rfl) (by rw [e1]; exact ZiA w1 (by rw [Zan]; simp) (by rw [Zan]; exact n1))) Tryz.func124 rfl rfl (by simp [DV.fit32, DV.width]) ?_, rfl, rfl, h2⟩
    rw [Zle]
    exact ⟨rfl, fun _ _ => rfl⟩
  · refine ⟨_, Zak .nil mixed Tryz.func124 rfl rfl rfl ?_, rfl, rfl, h⟩
    rw [Zj2]
  · exact h.elim
theorem Zlg (R sp : List (List D)) (K : DV → Prop) : (ask Tryz.prog [] Tryz.f148 [dS 3 R sp] K) = ((bif Nat.beq (List.length R) (OfNat.ofNat (0)) then K (DV.c (D.s (1) (3) [] [])) else True) ∧ bif allV R then bif true && (decide ((0 + List.length R) * 24 ≤ 140737488355328) && decide (0 + List.length R ≤ 9223372036854775807)) then bif decide (0 + List.length R ≤ List.length ([] ++ R)) && List.all ([] ++ R) fun r => List.all r D.keeps then K (DV.c (D.s (1) (3) (List.take (0 + List.length R) ([] ++ R)) (List.take (0 + List.length R - (0 + List.length R)) (List.drop (0 + List.length R) ([] ++ R))))) else False else False else False) := by kernel_rfl
def Zeg : Spec := fun ds Q => match ds with | [.c (.s 0 3 R sp)] => cond (allV R && decide (R.length ≤ 5864062014635)) (Q (.c (.s 1 3 R []))) False | _ => False
theorem Zk9 : Zad Tryz.prog 148 Zeg := o_of Tryz.func148 (by kernel_rfl) rfl fun ds Q h => by
  unfold Zeg at h; split at h
  · rename_i R sp
    obtain ⟨h1, h2⟩ := Zag h
    simp only [Bool.and_eq_true, decide_eq_true_eq] at h1
    refine ⟨_, Zak .nil mixed Tryz.func148 rfl rfl rfl ?_, by simp [DV.pureOwn, DV.pure1, D.pureOwn, ZaE h1.1]; rfl, rfl, h2⟩
    rw [Zlg]
    have g1 : (0 + R.length) * 24 ≤ 140737488355328 := by omega
    have g2 : 0 + R.length ≤ 9223372036854775807 := by omega
    refine ⟨?_, ?_⟩
    · cases R with
      | nil => exact (rfl : DV.c (D.s 1 3 [] []) = DV.c (D.s 1 3 [] []))
      | cons r R => exact trivial
    · simp [h1.1, Zao h1.1]
      exact ⟨by omega, by omega⟩
  · exact h.elim
def Zax (R sp R' sp' : List (List D)) (i : Int) (p : Bool) : X := ⟨mkT 26 [(0, aS 4 R sp), (1, aS 4 R' sp'), (4, ab p), (5, ai i)], [], [], []⟩
def Zc2 (R sp R' sp' : List (List D)) (y : X) : X := Zax R sp R' sp' (ZbY y 5) (Zjf y 4)
theorem Zjh (R sp R' sp' : List (List D)) (i : Int) (p : Bool) (N : X → Prop) (E : Exit → X → Prop) : (ZaA band bor Tryz.prog [] [] Tryz.f59 0 [0, 1, 4, 5] [] (Zc2 R sp R' sp') (Zc2 R sp R' sp') N E (Zax R sp R' sp' i p)) = (bif decide (i < @Nat.cast Int _ (List.length R)) then bif decide (0 ≤ i) && decide (i < @Nat.cast Int _ (List.length R)) then bif isJ [IntKind.i64, IntKind.i64, IntKind.i64, IntKind.i64] (List.drop (0) (List.getD R (Int.toNat i) [])) then bif decide (0 ≤ i) && decide (i < @Nat.cast Int _ (List.length R')) then bif isJ [IntKind.i64, IntKind.i64, IntKind.i64, IntKind.i64] (List.drop (0) (List.getD R' (Int.toNat i) [])) then bif !eqI [hdJ (List.drop (0) (List.getD R (Int.toNat i) [])), hdJ (List.tail (List.drop (0) (List.getD R (Int.toNat i) []))), hdJ (List.tail (List.tail (List.drop (0) (List.getD R (Int.toNat i) [])))), hdJ (List.tail (List.tail (List.tail (List.drop (0) (List.getD R (Int.toNat i) [])))))] [hdJ (List.drop (0) (List.getD R' (Int.toNat i) [])), hdJ (List.tail (List.drop (0) (List.getD R' (Int.toNat i) []))), hdJ (List.tail (List.tail (List.drop (0) (List.getD R' (Int.toNat i) [])))), hdJ (List.tail (List.tail (List.tail (List.drop (0) (List.getD R' (Int.toNat i) [])))))] then Zax R sp R' sp' i false = Zax R sp R' sp' i false ∧ E Exit.ret (Zax R sp R' sp' i false) else Zax R sp R' sp' (IntKind.wrap IntKind.i64 (i + 1)) p = Zax R sp R' sp' (IntKind.wrap IntKind.i64 (i + 1)) p ∧ N (Zax R sp R' sp' (IntKind.wrap IntKind.i64 (i + 1)) p) else False else False else False else False else Zax R sp R' sp' i p = Zax R sp R' sp' i p ∧ E (Exit.exit (0)) (Zax R sp R' sp' i p)) := by kernel_rfl
def Zc8 (l l' : List (List Int)) (sp sp' : List (List D)) : LSum := fun Q x => x.only [0, 1, 4, 5] [] = Zax (mZ l) sp (mZ l') sp' 0 false ∧ (l = l' → Q (.exit 0) (Zax (mZ l) sp (mZ l') sp' l.length false)) ∧ (l ≠ l' → ∀ i : Int, Q .ret (Zax (mZ l) sp (mZ l') sp' i false))
theorem Zmb (l l' : List (List Int)) (sp sp' : List (List D)) (K : DV → Prop) : (askL Tryz.prog [] [(4, Zc8 l l' sp sp')] Tryz.f59 [dS 4 (mZ l) sp, dS 4 (mZ l') sp'] K) = (bif @Nat.cast Int _ (List.length (mZ l)) != @Nat.cast Int _ (List.length (mZ l')) then K (DV.c (D.v (Value.bool false))) else Zax (mZ l) sp (mZ l') sp' (0) false = Zax (mZ l) sp (mZ l') sp' (0) false ∧ (l = l' → K (DV.c (D.v (Value.bool true)))) ∧ (l ≠ l' → ∀ (i : Int), K (DV.c (D.v (Value.bool false))))) := by kernel_rfl
theorem ZjW (l l' : List (List Int)) (sp sp' : List (List D)) (K : DV → Prop) : (askL Tryz.prog [] [(4, fun _ _ => False)] Tryz.f59 [dS 4 (mZ l) sp, dS 4 (mZ l') sp'] K) = (bif @Nat.cast Int _ (List.length (mZ l)) != @Nat.cast Int _ (List.length (mZ l')) then K (DV.c (D.v (Value.bool false))) else False) := by kernel_rfl
theorem Ziq {l l' : List (List Int)} {sp sp' : List (List D)} (hw : wid 4 l) (hw' : wid 4 l') (hlen : l.length = l'.length) (hn : l.length ≤ 9223372036854775807) (Q : Exit → X → Prop) (x : X) (h : Zc8 l l' sp sp' Q x) : XWP Tryz.prog (.loop (Zal Tryz.f59 0)) Q x := by
  obtain ⟨h1, h2, h3⟩ := h
  refine Zas (ι := Nat) (H := hkA band bor [] []) (fn := Tryz.f59) (i := 0) (ts := [0, 1, 4, 5]) (ks := []) (ZaJ .nil) mixed (Zae rfl)
    (fun i => Zax (mZ l) sp (mZ l') sp' i false) (fun i => i ≤ l.length ∧ ∀ j, j < i → l.getD j [] = l'.getD j []) (fun i => l.length - i) 0 (Zc2 (mZ l) sp (mZ l') sp') (Zc2 (mZ l) sp (mZ l') sp') (fun i hp => ?_) ⟨Nat.zero_le _, fun j hj => by omega⟩ h1
  obtain ⟨hi, hj⟩ := hp
  show ZaA band bor Tryz.prog _ _ Tryz.f59 0 _ _ _ _ _ _ _
  rw [Zjh]
  by_cases hl : i < l.length
  · have wi : IntKind.wrap .i64 ((i : Int) + 1) = ((i + 1 : Nat) : Int) := Zaj (n := 1) (by omega)
    have hl' : i < l'.length := by omega
    have hj1 : isJ [IntKind.i64, IntKind.i64, IntKind.i64, IntKind.i64] ((mZ l).getD i []) = true := Zau (j := 0) (n := 4) hw hl (by omega)
    have hj2 : isJ [IntKind.i64, IntKind.i64, IntKind.i64, IntKind.i64] ((mZ l').getD i []) = true := Zau (j := 0) (n := 4) hw' hl' (by omega)
    have he := Zfx (l.getD i []) (l'.getD i []) (by rw [ZaC hw hl, ZaC hw' hl'])
    rw [← row4 (ZaC hw hl), ← row4 (ZaC hw' hl')] at he
    simp only [Zai, Int.ofNat_lt, hl, hl', decide_true, cond_true, Int.natCast_nonneg, Bool.and_self, Int.toNat_natCast, ZaV, ZaT, Zbn, hj1, hj2, List.drop_zero, ZaF, true_and, wi, he]
    rw [row4 (ZaC hw hl), row4 (ZaC hw' hl')]
    by_cases hee : l.getD i [] = l'.getD i []
    · rw [decide_eq_true hee]
      refine ⟨i + 1, by omega, ⟨hl, fun j hji => ?_⟩, rfl⟩
      rcases Nat.lt_succ_iff_lt_or_eq.1 hji with hji | rfl
      · exact hj j hji
      · exact hee
    · rw [decide_eq_false hee]
      exact h3 (fun e => hee (by rw [e])) _
  · have e : i = l.length := by omega
    subst e
    simp only [Zai, Int.ofNat_lt, Nat.lt_irrefl, decide_false, cond_false, true_and]
    exact h2 (ZeF hlen fun j h => hj j h)
theorem Zk7 {l l' : List (List Int)} {sp sp' : List (List D)} (hw : wid 4 l) (hw' : wid 4 l') (hn : l.length ≤ 9223372036854775807) : CT Tryz.prog 59 [dS 4 (mZ l) sp, dS 4 (mZ l') sp'] (B (decide (l = l'))) := by
  by_cases hlen : l.length = l'.length
  · refine ZaB (l := []) (m := [(4, Zc8 l l' sp sp')]) .nil mixed (Za9 rfl (by kernel_rfl) (Ziq hw hw' hlen hn)) Tryz.func59 rfl rfl rfl ?_
    rw [Zmb]
    have : (((mZ l).length : Int) != ((mZ l').length : Int)) = false := by simp [Zai, hlen]
    rw [this]
    by_cases he : l = l'
    · simp [he]
    · simp [he]
  · refine ZaB (l := []) (m := [(4, fun _ _ => False)]) .nil mixed (Za9 rfl (by kernel_rfl) (fun _ _ h => h.elim)) Tryz.func59 rfl rfl rfl ?_
    rw [ZjW]
    have : (((mZ l).length : Int) != ((mZ l').length : Int)) = true := by simp [Zai]; omega
    rw [this]
    have : l ≠ l' := fun e => hlen (by rw [e])
    simp [this]
def Zc7 : Spec := fun ds Q => match ds with | [.c (.s 0 4 R sp), .c (.s 0 4 R' sp')] => cond (okZ 4 R && okZ 4 R') (Q (B (decide (toZ R = toZ R')))) False | _ => False
theorem ZgM : Zad Tryz.prog 59 Zc7 := o_of Tryz.func59 (by kernel_rfl) rfl fun ds Q h => by
  unfold Zc7 at h; split at h
  · rename_i R sp R' sp'
    obtain ⟨h1, h2⟩ := Zag h
    simp only [Bool.and_eq_true] at h1
    obtain ⟨e1, w1, n1⟩ := Zah h1.1
    obtain ⟨e2, w2, n2⟩ := Zah h1.2
    rw [e1, e2]
    rw [Zan R |>.symm] at n1
    generalize toZ R = l at *
    generalize toZ R' = l' at *
    exact ⟨_, Zk7 w1 w2 n1, rfl, rfl, h2⟩
  · exact h.elim
def ZaL (n kn : Nat) (i : Int) (W : List (List D)) : X := ⟨mkT 19 [(0, .c (.rs 1000000 0 4 0 n kn)), (2, ai i)], [(1000000, .sl 0 4 W)], [], []⟩
def Zcz (n kn : Nat) (y : X) : X := ZaL n kn (ZbY y 2) (Zfn y 1000000)
theorem Zii (n kn : Nat) (i : Int) (W : List (List D)) (N : X → Prop) (E : Exit → X → Prop) : (ZaA band bor Tryz.prog [] [] Tryz.f74 0 [0, 2] [1000000] (Zcz n kn) (Zcz n kn) N E (ZaL n kn i W)) = (bif decide (i < @Nat.cast Int _ n) then bif decide (0 ≤ i) && decide (i < @Nat.cast Int _ n) then bif decide (addN (0) (Int.toNat i) < List.length W) then bif isJ [IntKind.i64] (List.drop (0) (List.getD W (addN (0) (Int.toNat i)) [])) then bif decide (0 ≤ i) && decide (i < @Nat.cast Int _ n) then bif decide (addN (0) (Int.toNat i) < List.length W) && decide (0 + 1 ≤ 4) then ZaL n kn (IntKind.wrap IntKind.i64 (i + 1)) (List.set W (addN (0) (Int.toNat i)) (D.v (Value.int IntKind.i64 (bxor (hdJ (List.drop (0) (List.getD W (addN (0) (Int.toNat i)) []))) (90))) :: List.drop (0 + 1) (List.getD W (addN (0) (Int.toNat i)) []))) = ZaL n kn (IntKind.wrap IntKind.i64 (i + 1)) (List.set W (addN (0) (Int.toNat i)) (D.v (Value.int IntKind.i64 (bxor (hdJ (List.drop (0) (List.getD W (addN (0) (Int.toNat i)) []))) (90))) :: List.drop (0 + 1) (List.getD W (addN (0) (Int.toNat i)) []))) ∧ N (ZaL n kn (IntKind.wrap IntKind.i64 (i + 1)) (List.set W (addN (0) (Int.toNat i)) (D.v (Value.int IntKind.i64 (bxor (hdJ (List.drop (0) (List.getD W (addN (0) (Int.toNat i)) []))) (90))) :: List.drop (0 + 1) (List.getD W (addN (0) (Int.toNat i)) [])))) else False else False else False else False else False else ZaL n kn i W = ZaL n kn i W ∧ E (Exit.exit (0)) (ZaL n kn i W)) := by kernel_rfl
theorem ZfT (v : Int) (r : List Int) (h : 0 < r.length) : D.v (Value.int IntKind.i64 v) :: List.drop (0 + 1) (r.map vI) = (r.set 0 v).map vI := by
  cases r with
  | nil => simp at h
  | cons a r => simp [vI, vi]
def ZcN (n kn : Nat) (W0 : List (List D)) : LSum := fun Q y => y.only [0, 2] [1000000] = ZaL n kn 0 W0 ∧ ∀ i W, Q (.exit 0) (ZaL n kn i W)
theorem Zjy (R sp : List (List D)) (K : DV → Prop) : (askL Tryz.prog [] [(1, ZcN R.length (R.length + sp.length) (R ++ sp))] Tryz.f74 [oS 4 R sp] K) = (ZaL (List.length R) (List.length R + List.length sp) (0) (R ++ sp) = ZaL (List.length R) (List.length R + List.length sp) (0) (R ++ sp) ∧ ∀ (i : Int) (W : List (List D)), K (DV.tup [])) := by kernel_rfl
theorem Zig (K : DV → Prop) : (ask Tryz.prog [] Tryz.f74 [.c (.v (.slice none 0 0))] K) = (K (DV.tup [])) := by kernel_rfl
theorem Zhm {n kn : Nat} {l : List (List Int)} (hw : wid 4 l) (hnl : n ≤ l.length) (hn : l.length ≤ 9223372036854775807) (Q : Exit → X → Prop) (x : X) (h : ZcN n kn (mZ l) Q x) : XWP Tryz.prog (.loop (Zal Tryz.f74 0)) Q x := by
  obtain ⟨h1, h2⟩ := h
  refine Zas (ι := Nat × List (List Int)) (H := hkA band bor [] []) (fn := Tryz.f74) (i := 0) (ts := [0, 2]) (ks := [1000000]) (ZaJ .nil) mixed (Zae rfl)
    (fun p => ZaL n kn p.1 (mZ p.2)) (fun p => p.1 ≤ n ∧ wid 4 p.2 ∧ p.2.length = l.length) (fun p => n - p.1) (0, l) (Zcz n kn) (Zcz n kn) (fun p hp => ?_) ⟨Nat.zero_le _, hw, rfl⟩ h1
  obtain ⟨i, m⟩ := p
  obtain ⟨hi, hm, hml⟩ := hp
  simp only at hi hm hml ⊢
  show ZaA band bor Tryz.prog _ _ Tryz.f74 0 _ _ _ _ _ _ _
  rw [Zii]
  by_cases hl : i < n
  · have wi : IntKind.wrap .i64 ((i : Int) + 1) = ((i + 1 : Nat) : Int) := Zaj (n := 1) (by omega)
    have hlm : i < m.length := by omega
    have hj := Zb9 (j := 0) hm hlm (by omega)
    have hrow := ZaC hm hlm
    have hd1 : (0 + 1 ≤ 4) = True := by simp
    simp only [Int.ofNat_lt, hl, decide_true, cond_true, Int.natCast_nonneg, Bool.and_self, Int.toNat_natCast, addN, Zai, hlm, hj, ZbS, wi, hd1, true_and]
    rw [Zek, ZfT _ _ (by rw [hrow]; omega), Zks]
    exact ⟨(i + 1, _), by simp; omega, ⟨hl, ZgE hm (by rw [List.length_set, hrow]), by rw [List.length_set, hml]⟩, rfl⟩
  · have e : ¬ ((i : Int) < (n : Int)) := by omega
    simp only [e, decide_false, cond_false, true_and]
    exact h2 _ _
def Zbu : Spec := fun ds Q => match ds with
  | [.c (.s 1 4 R sp)] => cond (okZ 4 (R ++ sp)) (Q (.tup [])) False
  | [.c (.v (.slice none 0 0))] => Q (.tup [])
  | _ => False
theorem ZkC : Zad Tryz.prog 74 Zbu := o_of Tryz.func74 (by kernel_rfl) rfl fun ds Q h => by
  unfold Zbu at h; split at h
  · rename_i R sp
    obtain ⟨h1, h2⟩ := Zag h
    obtain ⟨e1, w1, n1⟩ := Zah h1
    refine ⟨_, ZaB (l := []) (m := [(1, ZcN R.length (R.length + sp.length) (R ++ sp))]) .nil mixed (Za9 rfl (by kernel_rfl) (by rw [e1]; exact Zhm w1 (by rw [Zan]; simp) (by rw [Zan]; exact n1))) Tryz.func74 rfl rfl (by simp [DV.fit32, DV.width]) ?_, rfl, rfl, h2⟩
    rw [Zjy]
    exact ⟨rfl, fun _ _ => rfl⟩
  · refine ⟨_, Zak .nil mixed Tryz.func74 rfl rfl rfl ?_, rfl, rfl, h⟩
    rw [Zig]
  · exact h.elim
theorem Zkz (R sp : List (List D)) (K : DV → Prop) : (ask Tryz.prog [] Tryz.f95 [dS 4 R sp] K) = ((bif Nat.beq (List.length R) (OfNat.ofNat (0)) then K (DV.c (D.s (1) (4) [] [])) else True) ∧ bif allV R then bif true && (decide ((0 + List.length R) * 32 ≤ 140737488355328) && decide (0 + List.length R ≤ 9223372036854775807)) then bif decide (0 + List.length R ≤ List.length ([] ++ R)) && List.all ([] ++ R) fun r => List.all r D.keeps then K (DV.c (D.s (1) (4) (List.take (0 + List.length R) ([] ++ R)) (List.take (0 + List.length R - (0 + List.length R)) (List.drop (0 + List.length R) ([] ++ R))))) else False else False else False) := by kernel_rfl
def Zbs : Spec := fun ds Q => match ds with | [.c (.s 0 4 R sp)] => cond (allV R && decide (R.length ≤ 4398046510977)) (Q (.c (.s 1 4 R []))) False | _ => False
theorem Zb4 : Zad Tryz.prog 95 Zbs := o_of Tryz.func95 (by kernel_rfl) rfl fun ds Q h => by
  unfold Zbs at h; split at h
  · rename_i R sp
    obtain ⟨h1, h2⟩ := Zag h
    simp only [Bool.and_eq_true, decide_eq_true_eq] at h1
    refine ⟨_, Zak .nil mixed Tryz.func95 rfl rfl rfl ?_, by simp [DV.pureOwn, DV.pure1, D.pureOwn, ZaE h1.1]; rfl, rfl, h2⟩
    rw [Zkz]
    have g1 : (0 + R.length) * 32 ≤ 140737488355328 := by omega
    have g2 : 0 + R.length ≤ 9223372036854775807 := by omega
    refine ⟨?_, ?_⟩
    · cases R with
      | nil => exact (rfl : DV.c (D.s 1 4 [] []) = DV.c (D.s 1 4 [] []))
      | cons r R => exact trivial
    · simp [h1.1, Zao h1.1]
      exact ⟨by omega, by omega⟩
  · exact h.elim
end

section
open Go Go.Proofs
theorem eReg (x : Int) (K : DV → Prop) : (ask Tryz.prog [] Tryz.f135 [I x] K) = (bif decide (x ≥ 0) then K (DV.c (D.v (Value.bool (decide (x < 4))))) else K (DV.c (D.v (Value.bool false)))) := by kernel_rfl
theorem oReg : Zad Tryz.prog 135 (sB lab) := oB Tryz.func135 (by kernel_rfl) rfl fun x => Zak .nil mixed Tryz.func135 rfl rfl rfl (by
  rw [eReg]; unfold lab upto; rw [lt4]; cases decide (x ≥ 0) <;> rfl)
theorem ZtS : Zad Tryz.prog 136 (sB lab) := oB Tryz.func136 (by kernel_rfl) rfl fun x => Zak (.cons oUp .nil) mixed Tryz.func136 rfl rfl rfl (by
  have e : ask Tryz.prog [(119, sUp)] Tryz.f136 [I x] (fun r => r = B (lab x)) = (B (lab x) = B (lab x)) := by kernel_rfl
  rw [e])
def nA (c a : Int) : Int := if c = 0 ∨ c = 1 ∨ c = 2 ∨ c = 3 ∨ c = 4 ∨ c = 6 then a else 0
def nB (c b : Int) : Int := if c = 0 ∨ c = 1 ∨ c = 2 ∨ c = 3 ∨ c = 4 then b else 0
def nD (c d : Int) : Int := if c = 2 ∨ c = 3 then d else 0
def imay (c a b d : Int) : Bool := (c == 0 && (lab a && (val8 b && d == 0))) || ((c == 1 && (lab a && (lab b && d == 0))) || (((c == 2 || c == 3) && (lab a && (lab b && lab d))) || ((c == 4 && (lab a && (upto b 0 16 && d == 0))) || ((c == 5 && (a == 0 && (b == 0 && d == 0))) || (c == 6 && (val8 a && (b == 0 && d == 0)))))))
def ZpR : Spec := fun ds Q => match ds with | [.agg [.v (.int .i64 c), .v (.int .i64 a), .v (.int .i64 b), .v (.int .i64 d)]] => Q (.agg [vi c, vi (nA c a), vi (nB c b), vi (nD c d)]) | _ => False
def ZjX : Spec := fun ds Q => match ds with | [.agg [.v (.int .i64 c), .v (.int .i64 a), .v (.int .i64 b), .v (.int .i64 d)]] => Q (B (imay c a b d)) | _ => False
theorem ZuS (c a b d : Int) (K : DV → Prop) : (ask Tryz.prog [] Tryz.f193 [.agg [vi c, vi a, vi b, vi d]] K) = (bif c == 0 then K (DV.agg [D.v (Value.int IntKind.i64 c), D.v (Value.int IntKind.i64 a), D.v (Value.int IntKind.i64 b), D.v (Value.int IntKind.i64 (0))]) else bif c == 1 then K (DV.agg [D.v (Value.int IntKind.i64 c), D.v (Value.int IntKind.i64 a), D.v (Value.int IntKind.i64 b), D.v (Value.int IntKind.i64 (0))]) else bif c == 4 then K (DV.agg [D.v (Value.int IntKind.i64 c), D.v (Value.int IntKind.i64 a), D.v (Value.int IntKind.i64 b), D.v (Value.int IntKind.i64 (0))]) else bif c == 2 then K (DV.agg [D.v (Value.int IntKind.i64 c), D.v (Value.int IntKind.i64 a), D.v (Value.int IntKind.i64 b), D.v (Value.int IntKind.i64 d)]) else bif c == 3 then K (DV.agg [D.v (Value.int IntKind.i64 c), D.v (Value.int IntKind.i64 a), D.v (Value.int IntKind.i64 b), D.v (Value.int IntKind.i64 d)]) else bif c == 6 then K (DV.agg [D.v (Value.int IntKind.i64 c), D.v (Value.int IntKind.i64 a), D.v (Value.int IntKind.i64 (0)), D.v (Value.int IntKind.i64 (0))]) else K (DV.agg [D.v (Value.int IntKind.i64 c), D.v (Value.int IntKind.i64 (0)), D.v (Value.int IntKind.i64 (0)), D.v (Value.int IntKind.i64 (0))])) := by kernel_rfl
theorem ZvP (c a b d : Int) (K : DV → Prop) : (ask Tryz.prog [(193, ZpR), (135, sB lab), (115, sB val8), (64, sB lab)] Tryz.f183 [.agg [vi c, vi a, vi b, vi d]] K) = (bif !eqI [c, nA c a, nB c b, nD c d] [c, a, b, d] then K (DV.c (D.v (Value.bool false))) else bif c == 0 then bif lab a then K (DV.c (D.v (Value.bool (val8 b)))) else K (DV.c (D.v (Value.bool false))) else bif c == 1 then bif lab a then K (DV.c (D.v (Value.bool (lab b)))) else K (DV.c (D.v (Value.bool false))) else bif c == 2 then bif lab a then bif lab b then bif decide (d ≥ 0) then K (DV.c (D.v (Value.bool (decide (d < 4))))) else K (DV.c (D.v (Value.bool false))) else K (DV.c (D.v (Value.bool false))) else K (DV.c (D.v (Value.bool false))) else bif c == 3 then bif lab a then bif lab b then bif decide (d ≥ 0) then K (DV.c (D.v (Value.bool (decide (d < 4))))) else K (DV.c (D.v (Value.bool false))) else K (DV.c (D.v (Value.bool false))) else K (DV.c (D.v (Value.bool false))) else bif c == 4 then bif lab a then bif decide (b ≥ 0) then K (DV.c (D.v (Value.bool (decide (b ≤ 16))))) else K (DV.c (D.v (Value.bool false))) else K (DV.c (D.v (Value.bool false))) else bif c == 5 then K (DV.c (D.v (Value.bool true))) else bif c == 6 then K (DV.c (D.v (Value.bool (val8 a)))) else K (DV.c (D.v (Value.bool false)))) := by kernel_rfl
theorem Zul (c a b d : Int) (K : DV → Prop) : (ask Tryz.prog [(136, sB lab), (91, sB val8), (71, sB lab), (119, sUp)] Tryz.f184 [.agg [vi c, vi a, vi b, vi d]] K) = (bif c == 0 then bif lab a then bif val8 b then K (DV.c (D.v (Value.bool (d == 0)))) else K (DV.c (D.v (Value.bool false))) else K (DV.c (D.v (Value.bool false))) else bif c == 1 then bif lab a then bif lab b then K (DV.c (D.v (Value.bool (d == 0)))) else K (DV.c (D.v (Value.bool false))) else K (DV.c (D.v (Value.bool false))) else bif c == 2 then bif lab a then bif lab b then K (DV.c (D.v (Value.bool (upto d (0) (3))))) else K (DV.c (D.v (Value.bool false))) else K (DV.c (D.v (Value.bool false))) else bif c == 3 then bif lab a then bif lab b then K (DV.c (D.v (Value.bool (upto d (0) (3))))) else K (DV.c (D.v (Value.bool false))) else K (DV.c (D.v (Value.bool false))) else bif c == 4 then bif lab a then bif upto b (0) (16) then K (DV.c (D.v (Value.bool (d == 0)))) else K (DV.c (D.v (Value.bool false))) else K (DV.c (D.v (Value.bool false))) else bif c == 5 then K (DV.c (D.v (Value.bool (eqI [c, a, b, d] [5, 0, 0, 0])))) else bif c == 6 then bif val8 a then bif b == 0 then K (DV.c (D.v (Value.bool (d == 0)))) else K (DV.c (D.v (Value.bool false))) else K (DV.c (D.v (Value.bool false))) else K (DV.c (D.v (Value.bool false)))) := by kernel_rfl
theorem ZuA : Zad Tryz.prog 193 ZpR := o_of Tryz.func193 (by kernel_rfl) rfl fun ds Q h => by
  unfold ZpR at h; split at h
  · rename_i c a b d
    refine ⟨_, Zak .nil mixed Tryz.func193 rfl rfl rfl ?_, rfl, rfl, h⟩
    rw [ZuS]
    by_cases h0 : c = 0
    · subst h0; rfl
    by_cases h1 : c = 1
    · subst h1; rfl
    by_cases h2 : c = 2
    · subst h2; rfl
    by_cases h3 : c = 3
    · subst h3; rfl
    by_cases h4 : c = 4
    · subst h4; rfl
    by_cases h6 : c = 6
    · subst h6; rfl
    simp [nA, nB, nD, h0, h1, h2, h3, h4, h6]
  · exact h.elim
theorem bz (d : Int) : (0 == d) = (d == 0) := by
  by_cases h : d = 0
  · subst h; rfl
  · rw [beq_eq_false_iff_ne.2 h, beq_eq_false_iff_ne.2 (fun e => h e.symm)]
theorem Zvw : Zad Tryz.prog 183 ZjX := o_of Tryz.func183 (by kernel_rfl) rfl fun ds Q h => by
  unfold ZjX at h; split at h
  · rename_i c a b d
    refine ⟨_, Zak (.cons ZuA (.cons oReg (.cons oVal (.cons oLab .nil)))) mixed Tryz.func183 rfl rfl rfl ?_, rfl, rfl, h⟩
    rw [ZvP]
    by_cases h0 : c = 0
    · subst h0
      by_cases hd : d = 0
      · subst hd; cases ha : lab a <;> cases hb : val8 b <;> simp [imay, nA, nB, nD, eqI, ha, hb]
      · simp [imay, nA, nB, nD, eqI, bz, hd]
    by_cases h1 : c = 1
    · subst h1
      by_cases hd : d = 0
      · subst hd; cases ha : lab a <;> cases hb : lab b <;> simp [imay, nA, nB, nD, eqI, ha, hb]
      · simp [imay, nA, nB, nD, eqI, bz, hd]
    by_cases h2 : c = 2
    · subst h2
      rw [lt4]
      have hl : lab d = (decide (d ≥ 0) && decide (d ≤ 3)) := rfl
      by_cases hd : 0 ≤ d <;> cases ha : lab a <;> cases hb : lab b <;> simp [imay, nA, nB, nD, eqI, ha, hb, hl, hd]
    by_cases h3 : c = 3
    · subst h3
      rw [lt4]
      have hl : lab d = (decide (d ≥ 0) && decide (d ≤ 3)) := rfl
      by_cases hd : 0 ≤ d <;> cases ha : lab a <;> cases hb : lab b <;> simp [imay, nA, nB, nD, eqI, ha, hb, hl, hd]
    by_cases h4 : c = 4
    · subst h4
      by_cases hd : d = 0
      · subst hd; cases ha : lab a <;> cases hb : decide (b ≥ 0) <;> simp [imay, nA, nB, nD, eqI, ha, upto, hb]
      · simp [imay, nA, nB, nD, eqI, bz, hd]
    by_cases h5 : c = 5
    · subst h5
      by_cases hd : d = 0
      · subst hd
        by_cases ha : a = 0
        · subst ha
          by_cases hb : b = 0
          · subst hb; rfl
          · simp [imay, nA, nB, nD, eqI, bz, hb]
        · simp [imay, nA, nB, nD, eqI, bz, ha]
      · simp [imay, nA, nB, nD, eqI, bz, hd]
    by_cases h6 : c = 6
    · subst h6
      by_cases hd : d = 0
      · subst hd
        by_cases hb : b = 0
        · subst hb; cases ha : val8 a <;> simp [imay, nA, nB, nD, eqI, ha]
        · simp [imay, nA, nB, nD, eqI, bz, hb]
      · simp [imay, nA, nB, nD, eqI, bz, hd]
    simp [imay, h0, h1, h2, h3, h4, h5, h6]
  · exact h.elim
theorem ZuP : Zad Tryz.prog 184 ZjX := o_of Tryz.func184 (by kernel_rfl) rfl fun ds Q h => by
  unfold ZjX at h; split at h
  · rename_i c a b d
    refine ⟨_, Zak (.cons ZtS (.cons ZgR (.cons Zok (.cons oUp .nil)))) mixed Tryz.func184 rfl rfl rfl ?_, rfl, rfl, h⟩
    rw [Zul]
    have hl : lab d = upto d 0 3 := rfl
    by_cases h0 : c = 0
    · subst h0; cases ha : lab a <;> cases hb : val8 b <;> simp [imay, ha, hb]
    by_cases h1 : c = 1
    · subst h1; cases ha : lab a <;> cases hb : lab b <;> simp [imay, ha, hb]
    by_cases h2 : c = 2
    · subst h2; cases ha : lab a <;> cases hb : lab b <;> simp [imay, ha, hb, hl]
    by_cases h3 : c = 3
    · subst h3; cases ha : lab a <;> cases hb : lab b <;> simp [imay, ha, hb, hl]
    by_cases h4 : c = 4
    · subst h4; cases ha : lab a <;> cases hb : upto b 0 16 <;> simp [imay, ha, hb]
    by_cases h5 : c = 5
    · subst h5; simp [imay, eqI]
    by_cases h6 : c = 6
    · subst h6; cases ha : val8 a <;> cases hb : (b == 0) <;> simp_all [imay]
    simp [imay, h0, h1, h2, h3, h4, h5, h6]
  · exact h.elim
def ZvD (r : List Int) : Bool := imay (r.getD 0 0) (r.getD 1 0) (r.getD 2 0) (r.getD 3 0)
def pI (n i : Nat) (r : List Int) : Bool := ZvD r && !(r.getD 0 0 == 4 && (decide (r.getD 2 0 ≤ (i : Int)) || decide (r.getD 2 0 > (n : Int))))
def Zcr (l : List (List Int)) (k : Nat) : Bool := (List.range k).all fun i => pI l.length i (l.getD i [])
def pmay (l : List (List Int)) : Bool := Zcr l l.length && decide (l.length ≤ 16)
theorem ZiO (l : List (List Int)) (i : Nat) : Zcr l (i + 1) = (Zcr l i && pI l.length i (l.getD i [])) := by simp [Zcr, List.range_succ]
theorem Znq {l : List (List Int)} {i n : Nat} (h : i ≤ n) (hc : Zcr l n = true) : Zcr l i = true := by
  simp only [Zcr, List.all_eq_true, List.mem_range] at hc ⊢
  exact fun j hj => hc j (by omega)
def stPM (R sp : List (List D)) (i : Int) (p : Bool) : X := ⟨mkT 37 [(0, aS 4 R sp), (2, ab p), (5, aS 4 R sp), (6, ai R.length), (7, ai i)], [], [], []⟩
def vPM (R sp : List (List D)) (y : X) : X := stPM R sp (ZbY y 7) (Zjf y 2)
theorem ePMr (R sp : List (List D)) (i : Int) (p : Bool) (N : X → Prop) (E : Exit → X → Prop) : (ZaA band bor Tryz.prog [(183, ZjX)] [] Tryz.f144 0 [0, 2, 5, 6, 7] [] (vPM R sp) (vPM R sp) N E (stPM R sp i p)) = (bif decide (i < @Nat.cast Int _ (List.length R)) then bif decide (0 ≤ i) && decide (i < @Nat.cast Int _ (List.length R)) then bif isJ [IntKind.i64, IntKind.i64, IntKind.i64, IntKind.i64] (List.drop (0) (List.getD R (Int.toNat i) [])) then bif !imay (hdJ (List.drop (0) (List.getD R (Int.toNat i) []))) (hdJ (List.tail (List.drop (0) (List.getD R (Int.toNat i) [])))) (hdJ (List.tail (List.tail (List.drop (0) (List.getD R (Int.toNat i) []))))) (hdJ (List.tail (List.tail (List.tail (List.drop (0) (List.getD R (Int.toNat i) [])))))) then stPM R sp i false = stPM R sp i false ∧ E Exit.ret (stPM R sp i false) else bif hdJ (List.drop (0) (List.getD R (Int.toNat i) [])) == 4 then bif decide (hdJ (List.tail (List.tail (List.drop (0) (List.getD R (Int.toNat i) [])))) ≤ i) then stPM R sp i false = stPM R sp i false ∧ E Exit.ret (stPM R sp i false) else bif decide (hdJ (List.tail (List.tail (List.drop (0) (List.getD R (Int.toNat i) [])))) > @Nat.cast Int _ (List.length R)) then stPM R sp i false = stPM R sp i false ∧ E Exit.ret (stPM R sp i false) else stPM R sp (IntKind.wrap IntKind.i64 (i + 1)) p = stPM R sp (IntKind.wrap IntKind.i64 (i + 1)) p ∧ N (stPM R sp (IntKind.wrap IntKind.i64 (i + 1)) p) else stPM R sp (IntKind.wrap IntKind.i64 (i + 1)) p = stPM R sp (IntKind.wrap IntKind.i64 (i + 1)) p ∧ N (stPM R sp (IntKind.wrap IntKind.i64 (i + 1)) p) else False else False else stPM R sp i p = stPM R sp i p ∧ E (Exit.exit (0)) (stPM R sp i p)) := by kernel_rfl
def Zsv (l : List (List Int)) (sp : List (List D)) : LSum := fun Q x => x.only [0, 2, 5, 6, 7] [] = stPM (mZ l) sp 0 false ∧ (Zcr l l.length = false → ∀ i : Int, Q .ret (stPM (mZ l) sp i false)) ∧ (Zcr l l.length = true → Q (.exit 0) (stPM (mZ l) sp l.length false))
theorem ePM (l : List (List Int)) (sp : List (List D)) (K : DV → Prop) : (askL Tryz.prog [] [(2, Zsv l sp)] Tryz.f144 [dS 4 (mZ l) sp] K) = (stPM (mZ l) sp (0) false = stPM (mZ l) sp (0) false ∧ (Zcr l (List.length l) = false → ∀ (i : Int), K (DV.c (D.v (Value.bool false)))) ∧ (Zcr l (List.length l) = true → K (DV.c (D.v (Value.bool (decide (@Nat.cast Int _ (List.length (mZ l)) ≤ 16))))))) := by kernel_rfl
def ZbP (R sp : List (List D)) (i : Int) (p : Bool) : X := ⟨mkT 46 [(0, aS 4 R sp), (2, ab p), (3, ai i)], [], [], []⟩
def vRPM (R sp : List (List D)) (y : X) : X := ZbP R sp (ZbY y 3) (Zjf y 2)
theorem Zws (R sp : List (List D)) (i : Int) (p : Bool) (N : X → Prop) (E : Exit → X → Prop) : (ZaA band bor Tryz.prog [(184, ZjX)] [] Tryz.f147 0 [0, 2, 3] [] (vRPM R sp) (vRPM R sp) N E (ZbP R sp i p)) = (bif decide (i < @Nat.cast Int _ (List.length R)) then bif decide (0 ≤ i) && decide (i < @Nat.cast Int _ (List.length R)) then bif isJ [IntKind.i64, IntKind.i64, IntKind.i64, IntKind.i64] (List.drop (0) (List.getD R (Int.toNat i) [])) then bif !imay (hdJ (List.drop (0) (List.getD R (Int.toNat i) []))) (hdJ (List.tail (List.drop (0) (List.getD R (Int.toNat i) [])))) (hdJ (List.tail (List.tail (List.drop (0) (List.getD R (Int.toNat i) []))))) (hdJ (List.tail (List.tail (List.tail (List.drop (0) (List.getD R (Int.toNat i) [])))))) then ZbP R sp i false = ZbP R sp i false ∧ E Exit.ret (ZbP R sp i false) else bif decide (0 ≤ i) && decide (i < @Nat.cast Int _ (List.length R)) then bif isJ [IntKind.i64] (List.drop (0) (List.getD R (Int.toNat i) [])) then bif hdJ (List.drop (0) (List.getD R (Int.toNat i) [])) == 4 then bif decide (0 ≤ i) && decide (i < @Nat.cast Int _ (List.length R)) then bif isJ [IntKind.i64] (List.drop (2) (List.getD R (Int.toNat i) [])) then bif decide (hdJ (List.drop (2) (List.getD R (Int.toNat i) [])) ≤ i) then ZbP R sp i false = ZbP R sp i false ∧ E Exit.ret (ZbP R sp i false) else bif decide (0 ≤ i) && decide (i < @Nat.cast Int _ (List.length R)) then bif isJ [IntKind.i64] (List.drop (2) (List.getD R (Int.toNat i) [])) then bif decide (hdJ (List.drop (2) (List.getD R (Int.toNat i) [])) > @Nat.cast Int _ (List.length R)) then ZbP R sp i false = ZbP R sp i false ∧ E Exit.ret (ZbP R sp i false) else ZbP R sp (IntKind.wrap IntKind.i64 (i + 1)) p = ZbP R sp (IntKind.wrap IntKind.i64 (i + 1)) p ∧ N (ZbP R sp (IntKind.wrap IntKind.i64 (i + 1)) p) else False else False else False else False else ZbP R sp (IntKind.wrap IntKind.i64 (i + 1)) p = ZbP R sp (IntKind.wrap IntKind.i64 (i + 1)) p ∧ N (ZbP R sp (IntKind.wrap IntKind.i64 (i + 1)) p) else False else False else False else False else ZbP R sp i p = ZbP R sp i p ∧ E (Exit.exit (0)) (ZbP R sp i p)) := by kernel_rfl
def Zoo (l : List (List Int)) (sp : List (List D)) : LSum := fun Q x => x.only [0, 2, 3] [] = ZbP (mZ l) sp 0 false ∧ (Zcr l l.length = false → ∀ i : Int, Q .ret (ZbP (mZ l) sp i false)) ∧ (Zcr l l.length = true → Q (.exit 0) (ZbP (mZ l) sp l.length false))
theorem eRPM (l : List (List Int)) (sp : List (List D)) (K : DV → Prop) : (askL Tryz.prog [] [(2, Zoo l sp)] Tryz.f147 [dS 4 (mZ l) sp] K) = (ZbP (mZ l) sp (0) false = ZbP (mZ l) sp (0) false ∧ (Zcr l (List.length l) = false → ∀ (i : Int), K (DV.c (D.v (Value.bool false)))) ∧ (Zcr l (List.length l) = true → K (DV.c (D.v (Value.bool (decide (@Nat.cast Int _ (List.length (mZ l)) ≤ 16))))))) := by kernel_rfl
end

section
open Go Go.Proofs
theorem Zwe {l : List (List Int)} {sp : List (List D)} (hw : wid 4 l) (hn : l.length ≤ 9223372036854775807) (Q : Exit → X → Prop) (x : X) (h : Zsv l sp Q x) : XWP Tryz.prog (.loop (Zal Tryz.f144 0)) Q x := by
  obtain ⟨h1, h2, h3⟩ := h
  refine Zas (ι := Nat) (H := hkA band bor [(183, ZjX)] []) (fn := Tryz.f144) (i := 0) (ts := [0, 2, 5, 6, 7]) (ks := []) (ZaJ (.cons Zvw .nil)) mixed (Zae rfl)
    (fun i => stPM (mZ l) sp i false) (fun i => i ≤ l.length ∧ Zcr l i = true) (fun i => l.length - i) 0 (vPM (mZ l) sp) (vPM (mZ l) sp) (fun i hp => ?_) ⟨Nat.zero_le _, rfl⟩ h1
  obtain ⟨hi, hj⟩ := hp
  show ZaA band bor Tryz.prog _ _ Tryz.f144 0 _ _ _ _ _ _ _
  rw [ePMr]
  by_cases hl : i < l.length
  · have wi : IntKind.wrap .i64 ((i : Int) + 1) = ((i + 1 : Nat) : Int) := Zaj (n := 1) (by omega)
    have hj1 : isJ [IntKind.i64, IntKind.i64, IntKind.i64, IntKind.i64] ((mZ l).getD i []) = true := Zau (j := 0) (n := 4) hw hl (by omega)
    simp only [Zai, Int.ofNat_lt, hl, decide_true, cond_true, Int.natCast_nonneg, Bool.and_self, Int.toNat_natCast, ZaV, ZaT, Zbn, hj1, List.drop_zero, ZaF, true_and, wi]
    have hp : pI l.length i (l.getD i []) = (imay ((l.getD i []).getD 0 0) ((l.getD i []).getD 1 0) ((l.getD i []).getD 2 0) ((l.getD i []).getD 3 0) && !((l.getD i []).getD 0 0 == 4 && (decide ((l.getD i []).getD 2 0 ≤ (i : Int)) || decide ((l.getD i []).getD 2 0 > (l.length : Int))))) := rfl
    have bad : pI l.length i (l.getD i []) = false → Zcr l l.length = false := fun hb => by
      rw [Bool.eq_false_iff]; intro hc
      have := Znq (i := i + 1) (by omega) hc
      rw [ZiO, hb] at this; simp at this
    have good : pI l.length i (l.getD i []) = true → Zcr l (i + 1) = true := fun hb => by rw [ZiO, hj, hb]; rfl
    generalize (l.getD i []).getD 0 0 = c at *
    generalize (l.getD i []).getD 1 0 = a at *
    generalize (l.getD i []).getD 2 0 = b at *
    generalize (l.getD i []).getD 3 0 = d at *
    have next : pI l.length i (l.getD i []) = true → ∃ p', l.length - p' < l.length - i ∧ (p' ≤ l.length ∧ Zcr l p' = true) ∧ stPM (mZ l) sp ((i + 1 : Nat) : Int) false = stPM (mZ l) sp (p' : Int) false := fun hb => ⟨i + 1, by omega, ⟨hl, good hb⟩, rfl⟩
    cases hm : imay c a b d with
    | false => exact h2 (bad (by rw [hp, hm]; rfl)) _
    | true =>
      cases hc : (c == 4) with
      | false => exact next (by rw [hp, hm, hc]; rfl)
      | true =>
        cases hb1 : decide (b ≤ (i : Int)) with
        | true => exact h2 (bad (by rw [hp, hm, hc, hb1]; rfl)) _
        | false =>
          cases hb2 : decide (b > (l.length : Int)) with
          | true => exact h2 (bad (by rw [hp, hm, hc, hb1, hb2]; rfl)) _
          | false => exact next (by rw [hp, hm, hc, hb1, hb2]; rfl)
  · have e : i = l.length := by omega
    subst e
    simp only [Zai, Int.ofNat_lt, Nat.lt_irrefl, decide_false, cond_false, true_and]
    exact h3 hj
theorem ZuE {l : List (List Int)} {sp : List (List D)} (hw : wid 4 l) (hn : l.length ≤ 9223372036854775807) (Q : Exit → X → Prop) (x : X) (h : Zoo l sp Q x) : XWP Tryz.prog (.loop (Zal Tryz.f147 0)) Q x := by
  obtain ⟨h1, h2, h3⟩ := h
  refine Zas (ι := Nat) (H := hkA band bor [(184, ZjX)] []) (fn := Tryz.f147) (i := 0) (ts := [0, 2, 3]) (ks := []) (ZaJ (.cons ZuP .nil)) mixed (Zae rfl)
    (fun i => ZbP (mZ l) sp i false) (fun i => i ≤ l.length ∧ Zcr l i = true) (fun i => l.length - i) 0 (vRPM (mZ l) sp) (vRPM (mZ l) sp) (fun i hp => ?_) ⟨Nat.zero_le _, rfl⟩ h1
  obtain ⟨hi, hj⟩ := hp
  show ZaA band bor Tryz.prog _ _ Tryz.f147 0 _ _ _ _ _ _ _
  rw [Zws]
  by_cases hl : i < l.length
  · have wi : IntKind.wrap .i64 ((i : Int) + 1) = ((i + 1 : Nat) : Int) := Zaj (n := 1) (by omega)
    have hj1 : isJ [IntKind.i64, IntKind.i64, IntKind.i64, IntKind.i64] ((mZ l).getD i []) = true := Zau (j := 0) (n := 4) hw hl (by omega)
    have hj2 : isJ [IntKind.i64] ((mZ l).getD i []) = true := Zb9 (j := 0) hw hl (by omega)
    have hj3 : isJ [IntKind.i64] (((mZ l).getD i []).drop 2) = true := Zb9 (j := 2) hw hl (by omega)
    simp only [Zai, Int.ofNat_lt, hl, decide_true, cond_true, Int.natCast_nonneg, Bool.and_self, Int.toNat_natCast, ZaV, ZaT, Zbn, hj1, hj2, hj3, List.drop_zero, ZaF, ZbS, true_and, wi]
    have hp : pI l.length i (l.getD i []) = (imay ((l.getD i []).getD 0 0) ((l.getD i []).getD 1 0) ((l.getD i []).getD 2 0) ((l.getD i []).getD 3 0) && !((l.getD i []).getD 0 0 == 4 && (decide ((l.getD i []).getD 2 0 ≤ (i : Int)) || decide ((l.getD i []).getD 2 0 > (l.length : Int))))) := rfl
    have bad : pI l.length i (l.getD i []) = false → Zcr l l.length = false := fun hb => by
      rw [Bool.eq_false_iff]; intro hc
      have := Znq (i := i + 1) (by omega) hc
      rw [ZiO, hb] at this; simp at this
    have good : pI l.length i (l.getD i []) = true → Zcr l (i + 1) = true := fun hb => by rw [ZiO, hj, hb]; rfl
    generalize (l.getD i []).getD 0 0 = c at *
    generalize (l.getD i []).getD 1 0 = a at *
    generalize (l.getD i []).getD 2 0 = b at *
    generalize (l.getD i []).getD 3 0 = d at *
    have next : pI l.length i (l.getD i []) = true → ∃ p', l.length - p' < l.length - i ∧ (p' ≤ l.length ∧ Zcr l p' = true) ∧ ZbP (mZ l) sp ((i + 1 : Nat) : Int) false = ZbP (mZ l) sp (p' : Int) false := fun hb => ⟨i + 1, by omega, ⟨hl, good hb⟩, rfl⟩
    cases hm : imay c a b d with
    | false => exact h2 (bad (by rw [hp, hm]; rfl)) _
    | true =>
      cases hc : (c == 4) with
      | false => exact next (by rw [hp, hm, hc]; rfl)
      | true =>
        cases hb1 : decide (b ≤ (i : Int)) with
        | true => exact h2 (bad (by rw [hp, hm, hc, hb1]; rfl)) _
        | false =>
          cases hb2 : decide (b > (l.length : Int)) with
          | true => exact h2 (bad (by rw [hp, hm, hc, hb1, hb2]; rfl)) _
          | false => exact next (by rw [hp, hm, hc, hb1, hb2]; rfl)
  · have e : i = l.length := by omega
    subst e
    simp only [Zai, Int.ofNat_lt, Nat.lt_irrefl, decide_false, cond_false, true_and]
    exact h3 hj
def Zoa : Spec := fun ds Q => match ds with | [.c (.s 0 4 R sp)] => cond (okZ 4 R) (Q (B (pmay (toZ R)))) False | _ => False
theorem ZvL : Zad Tryz.prog 144 Zoa := o_of Tryz.func144 (by kernel_rfl) rfl fun ds Q h => by
  unfold Zoa at h; split at h
  · rename_i R sp
    obtain ⟨h1, h2⟩ := Zag h
    obtain ⟨e1, w1, n1⟩ := Zah h1
    rw [e1]
    rw [← Zan R] at n1
    generalize toZ R = l at *
    refine ⟨_, ZaB (l := []) (m := [(2, Zsv l sp)]) .nil mixed (Za9 rfl (by kernel_rfl) (Zwe w1 n1)) Tryz.func144 rfl rfl rfl ?_, rfl, rfl, h2⟩
    rw [ePM, Zai]
    have e16 : decide ((l.length : Int) ≤ 16) = decide (l.length ≤ 16) := by congr 1; exact propext ⟨fun h => by omega, fun h => by omega⟩
    refine ⟨rfl, fun hb _ => ?_, fun hb => ?_⟩
    · simp [pmay, hb]
    · rw [e16]; simp [pmay, hb]
  · exact h.elim
theorem Zus : Zad Tryz.prog 147 Zoa := o_of Tryz.func147 (by kernel_rfl) rfl fun ds Q h => by
  unfold Zoa at h; split at h
  · rename_i R sp
    obtain ⟨h1, h2⟩ := Zag h
    obtain ⟨e1, w1, n1⟩ := Zah h1
    rw [e1]
    rw [← Zan R] at n1
    generalize toZ R = l at *
    refine ⟨_, ZaB (l := []) (m := [(2, Zoo l sp)]) .nil mixed (Za9 rfl (by kernel_rfl) (ZuE w1 n1)) Tryz.func147 rfl rfl rfl ?_, rfl, rfl, h2⟩
    rw [eRPM, Zai]
    have e16 : decide ((l.length : Int) ≤ 16) = decide (l.length ≤ 16) := by congr 1; exact propext ⟨fun h => by omega, fun h => by omega⟩
    refine ⟨rfl, fun hb _ => ?_, fun hb => ?_⟩
    · simp [pmay, hb]
    · rw [e16]; simp [pmay, hb]
  · exact h.elim
theorem oId : Zad Tryz.prog 142 (sB idm) := oB Tryz.func142 (by kernel_rfl) rfl fun x => Zak (.cons oIn .nil) mixed Tryz.func142 rfl rfl rfl (by
  have e : ask Tryz.prog [(150, sIn)] Tryz.f142 [I x] (fun r => r = B (idm x)) = (B (idm x) = B (idm x)) := by kernel_rfl
  rw [e])
theorem oRId : Zad Tryz.prog 145 (sB idm) := oB Tryz.func145 (by kernel_rfl) rfl fun x => Zak (.cons oUp .nil) mixed Tryz.func145 rfl rfl rfl (by
  have e : ask Tryz.prog [(119, sUp)] Tryz.f145 [I x] (fun r => r = B (idm x)) = (B (idm x) = B (idm x)) := by kernel_rfl
  rw [e])
def und (a b : Int) : Bool := bor a b == b
def sUnd : Spec := fun ds Q => match ds with | [.c (.v (.int .i64 a)), .c (.v (.int .i64 b))] => Q (B (und a b)) | _ => False
theorem eUnd (o : Int → Int → Int) (a b : Int) (K : DV → Prop) : (askA band o Tryz.prog [] [] Tryz.f143 [I a, I b] K) = (K (DV.c (D.v (Value.bool (o a b == b))))) := by kernel_rfl
theorem ZwJ (o : Int → Int → Int) (a b : Int) (K : DV → Prop) : (askA band o Tryz.prog [] [] Tryz.f146 [I a, I b] K) = (K (DV.c (D.v (Value.bool (o a b == b))))) := by kernel_rfl
theorem oUnd : Zad Tryz.prog 143 sUnd := o_of Tryz.func143 (by kernel_rfl) rfl fun ds Q h => by
  unfold sUnd at h; split at h
  · refine ⟨_, ZaB (l := []) (m := []) .nil mixed (Zae rfl) Tryz.func143 rfl rfl rfl (by
      show askA band bor Tryz.prog _ _ Tryz.f143 _ _
      rw [eUnd]; rfl), rfl, rfl, h⟩
  · exact h.elim
theorem Zuy : Zad Tryz.prog 146 sUnd := o_of Tryz.func146 (by kernel_rfl) rfl fun ds Q h => by
  unfold sUnd at h; split at h
  · refine ⟨_, ZaB (l := []) (m := []) .nil mixed (Zae rfl) Tryz.func146 rfl rfl rfl (by
      show askA band bor Tryz.prog _ _ Tryz.f146 _ _
      rw [ZwJ]; rfl), rfl, rfl, h⟩
  · exact h.elim
def smay (i g c : Int) (l : List (List Int)) : Bool := idm i && (lab g && (lab c && (und g c && pmay l)))
abbrev ZmV (i g c : Int) (R sp : List (List D)) : DV := .agg [vi i, vi g, vi c, .s 0 4 R sp]
theorem Zwy (i g c : Int) (R sp : List (List D)) (K : DV → Prop) : (ask Tryz.prog [(142, sB idm), (64, sB lab), (143, sUnd), (144, Zoa)] Tryz.f89 [ZmV i g c R sp] K) = (bif idm i then bif lab g then bif lab c then bif und g c then bif okZ (4) R then K (DV.c (D.v (Value.bool (pmay (toZ R))))) else False else K (DV.c (D.v (Value.bool false))) else K (DV.c (D.v (Value.bool false))) else K (DV.c (D.v (Value.bool false))) else K (DV.c (D.v (Value.bool false)))) := by kernel_rfl
theorem Zvc (i g c : Int) (R sp : List (List D)) (K : DV → Prop) : (ask Tryz.prog [(145, sB idm), (71, sB lab), (146, sUnd), (147, Zoa)] Tryz.f92 [ZmV i g c R sp] K) = (bif idm i then bif lab g then bif lab c then bif und g c then bif okZ (4) R then K (DV.c (D.v (Value.bool (pmay (toZ R))))) else False else K (DV.c (D.v (Value.bool false))) else K (DV.c (D.v (Value.bool false))) else K (DV.c (D.v (Value.bool false))) else K (DV.c (D.v (Value.bool false)))) := by kernel_rfl
def Zjg : Spec := fun ds Q => match ds with | [.agg [.v (.int .i64 i), .v (.int .i64 g), .v (.int .i64 c), .s 0 4 R sp]] => cond (okZ 4 R) (Q (B (smay i g c (toZ R)))) False | _ => False
theorem ZuN (i g c : Int) (R sp : List (List D)) (K : DV → Prop) : (ask Tryz.prog [(89, Zjg), (90, Zdn)] Tryz.f49 [ZmV i g c R sp] K) = (bif okZ (4) R then bif !smay i g c (toZ R) then K (DV.tup [DV.agg [D.v (Value.int IntKind.i64 (0)), D.v (Value.int IntKind.i64 (0)), D.v (Value.int IntKind.i64 (0)), D.v (Value.slice none (0) (0)), D.v (Value.int IntKind.i64 (0)), D.v (Value.int IntKind.i64 (0)), D.v (Value.int IntKind.i64 (0)), D.v (Value.int IntKind.i64 (0)), D.v (Value.int IntKind.i64 (0)), D.v (Value.int IntKind.i64 (0)), D.v (Value.slice none (0) (0)), D.v (Value.slice none (0) (0)), D.v (Value.int IntKind.i64 (0)), D.v (Value.int IntKind.i64 (0)), D.v (Value.int IntKind.i64 (0)), D.v (Value.int IntKind.i64 (0)), D.v (Value.int IntKind.i64 (0))], DV.c (D.v (Value.int IntKind.i64 (1100)))]) else bif allV R && decide (List.length R ≤ 4398046510977) then bif decide (List.length R ≤ List.length (R ++ [])) && List.all (R ++ []) fun r => List.all r D.keeps then K (DV.tup [DV.agg [D.v (Value.int IntKind.i64 i), D.v (Value.int IntKind.i64 g), D.v (Value.int IntKind.i64 c), D.s (1) (4) (List.take (List.length R) (R ++ [])) (List.take (List.length R + 0 - List.length R) (List.drop (List.length R) (R ++ []))), D.v (Value.int IntKind.i64 (0)), D.v (Value.int IntKind.i64 (0)), D.v (Value.int IntKind.i64 (0)), D.v (Value.int IntKind.i64 (0)), D.v (Value.int IntKind.i64 (0)), D.v (Value.int IntKind.i64 (0)), D.v (Value.slice none (0) (0)), D.v (Value.slice none (0) (0)), D.v (Value.int IntKind.i64 (0)), D.v (Value.int IntKind.i64 (0)), D.v (Value.int IntKind.i64 (0)), D.v (Value.int IntKind.i64 (0)), D.v (Value.int IntKind.i64 (0))], DV.c (D.v (Value.int IntKind.i64 (0)))]) else False else False else False) := by kernel_rfl
theorem Zr4 (i g c : Int) (R sp : List (List D)) (K : DV → Prop) : (ask Tryz.prog [(92, Zjg)] Tryz.f51 [ZmV i g c R sp] K) = (bif okZ (4) R then bif !smay i g c (toZ R) then K (DV.tup [DV.agg [D.v (Value.int IntKind.i64 (0)), D.v (Value.int IntKind.i64 (0)), D.v (Value.int IntKind.i64 (0)), D.v (Value.slice none (0) (0)), D.v (Value.int IntKind.i64 (0)), D.v (Value.int IntKind.i64 (0)), D.v (Value.int IntKind.i64 (0)), D.v (Value.int IntKind.i64 (0)), D.v (Value.int IntKind.i64 (0)), D.v (Value.int IntKind.i64 (0)), D.v (Value.slice none (0) (0)), D.v (Value.slice none (0) (0)), D.v (Value.int IntKind.i64 (0)), D.v (Value.int IntKind.i64 (0)), D.v (Value.int IntKind.i64 (0)), D.v (Value.int IntKind.i64 (0)), D.v (Value.int IntKind.i64 (0))], DV.c (D.v (Value.int IntKind.i64 (1100)))]) else bif allV R then bif true && (decide ((0 + List.length R) * 32 ≤ 140737488355328) && decide (0 + List.length R ≤ 9223372036854775807)) then bif decide (0 + List.length R ≤ List.length ([] ++ R)) && List.all ([] ++ R) fun r => List.all r D.keeps then K (DV.tup [DV.agg [D.v (Value.int IntKind.i64 i), D.v (Value.int IntKind.i64 g), D.v (Value.int IntKind.i64 c), D.s (1) (4) (List.take (0 + List.length R) ([] ++ R)) (List.take (0 + List.length R - (0 + List.length R)) (List.drop (0 + List.length R) ([] ++ R))), D.v (Value.int IntKind.i64 (0)), D.v (Value.int IntKind.i64 (0)), D.v (Value.int IntKind.i64 (0)), D.v (Value.int IntKind.i64 (0)), D.v (Value.int IntKind.i64 (0)), D.v (Value.int IntKind.i64 (0)), D.v (Value.slice none (0) (0)), D.v (Value.slice none (0) (0)), D.v (Value.int IntKind.i64 (0)), D.v (Value.int IntKind.i64 (0)), D.v (Value.int IntKind.i64 (0)), D.v (Value.int IntKind.i64 (0)), D.v (Value.int IntKind.i64 (0))], DV.c (D.v (Value.int IntKind.i64 (0)))]) else False else False else False else False) := by kernel_rfl
end

section
open Go Go.Proofs
theorem bifK (p q : Bool) (x : DV) : (bif p then (DV.c (.v (.bool q)) = x) else (DV.c (.v (.bool false)) = x)) = (DV.c (.v (.bool (p && q))) = x) := by cases p <;> rfl
theorem Ztk : Zad Tryz.prog 89 Zjg := o_of Tryz.func89 (by kernel_rfl) rfl fun ds Q h => by
  unfold Zjg at h; split at h
  · obtain ⟨h1, h2⟩ := Zag h
    refine ⟨_, Zak (.cons oId (.cons oLab (.cons oUnd (.cons ZvL .nil)))) mixed Tryz.func89 rfl rfl rfl ?_, rfl, rfl, h2⟩
    rw [Zwy, h1, cond_true]
    simp only [bifK]
    rfl
  · exact h.elim
theorem Zpa : Zad Tryz.prog 92 Zjg := o_of Tryz.func92 (by kernel_rfl) rfl fun ds Q h => by
  unfold Zjg at h; split at h
  · obtain ⟨h1, h2⟩ := Zag h
    refine ⟨_, Zak (.cons oRId (.cons Zok (.cons Zuy (.cons Zus .nil)))) mixed Tryz.func92 rfl rfl rfl ?_, rfl, rfl, h2⟩
    rw [Zvc, h1, cond_true]
    simp only [bifK]
    rfl
  · exact h.elim
abbrev nilD : D := .v (.slice none 0 0)
abbrev Zl7 (i g c : Int) (p : D) : DV := .agg [vi i, vi g, vi c, p, vi 0, vi 0, vi 0, vi 0, vi 0, vi 0, nilD, nilD, vi 0, vi 0, vi 0, vi 0, vi 0]
def ZnZ : Spec := fun ds Q => match ds with
  | [.agg [.v (.int .i64 i), .v (.int .i64 g), .v (.int .i64 c), .s 0 4 R sp]] => cond (okZ 4 R && decide (R.length ≤ 4398046510977)) (cond (smay i g c (toZ R)) (Q (.tup [Zl7 i g c (.s 1 4 R []), I 0])) (Q (.tup [Zl7 0 0 0 nilD, I 1100]))) False
  | _ => False
theorem Zj4 {i g c : Int} {R : List (List D)} (h : allV R = true) : (DV.tup [Zl7 i g c (.s 1 4 R []), I 0]).pureOwn = true := by
  simp [DV.pureOwn, DV.pureOwn.go, DV.pure1, D.pureOwn, ownL, ZaE h, Zdt]
theorem Zur : Zad Tryz.prog 49 ZnZ := o_of Tryz.func49 (by kernel_rfl) rfl fun ds Q h => by
  unfold ZnZ at h; split at h
  · rename_i i g c R sp
    obtain ⟨h1, h2⟩ := Zag h
    simp only [Bool.and_eq_true, decide_eq_true_eq] at h1
    obtain ⟨hR, hl⟩ := h1
    cases hm : smay i g c (toZ R) with
    | true =>
      rw [hm] at h2
      refine ⟨_, Zak (.cons Ztk (.cons Zeo .nil)) mixed Tryz.func49 rfl rfl rfl ?_, Zj4 (Zab hR), rfl, h2⟩
      rw [ZuN]
      simp only [hR, hl, Zab hR, hm, Zao (Zab hR), decide_true, Bool.and_self, Bool.not_true, cond_true, cond_false, List.append_nil, Nat.le_refl, List.take_length, Nat.add_zero, Nat.sub_self, List.take_zero]
    | false =>
      rw [hm] at h2
      refine ⟨_, Zak (.cons Ztk (.cons Zeo .nil)) mixed Tryz.func49 rfl rfl rfl ?_, rfl, rfl, h2⟩
      rw [ZuN]
      simp only [hR, hm, Bool.not_false, cond_true]
  · exact h.elim
theorem ZrQ : Zad Tryz.prog 51 ZnZ := o_of Tryz.func51 (by kernel_rfl) rfl fun ds Q h => by
  unfold ZnZ at h; split at h
  · rename_i i g c R sp
    obtain ⟨h1, h2⟩ := Zag h
    simp only [Bool.and_eq_true, decide_eq_true_eq] at h1
    obtain ⟨hR, hl⟩ := h1
    cases hm : smay i g c (toZ R) with
    | true =>
      rw [hm] at h2
      refine ⟨_, Zak (.cons Zpa .nil) mixed Tryz.func51 rfl rfl rfl ?_, Zj4 (Zab hR), rfl, h2⟩
      rw [Zr4]
      have g1 : R.length * 32 ≤ 140737488355328 := by omega
      have g2 : R.length ≤ 9223372036854775807 := by omega
      simp only [hR, g1, g2, Zab hR, hm, Zao (Zab hR), decide_true, Bool.and_self, Bool.not_true, cond_true, cond_false, List.nil_append, Nat.le_refl, List.take_length, Nat.zero_add, Nat.sub_self, List.take_zero]
    | false =>
      rw [hm] at h2
      refine ⟨_, Zak (.cons Zpa .nil) mixed Tryz.func51 rfl rfl rfl ?_, rfl, rfl, h2⟩
      rw [Zr4]
      simp only [hR, hm, Bool.not_false, cond_true]
  · exact h.elim
end

section
open Go Go.Proofs
theorem oClk : Zad Tryz.prog 102 (sB clk) := oB Tryz.func102 (by kernel_rfl) rfl fun x => Zak (.cons oIn .nil) mixed Tryz.func102 rfl rfl rfl (by
  have e : ask Tryz.prog [(150, sIn)] Tryz.f102 [I x] (fun r => r = B (clk x)) = (B (clk x) = B (clk x)) := by kernel_rfl
  rw [e])
theorem Zhq : Zad Tryz.prog 69 (sB clk) := oB Tryz.func69 (by kernel_rfl) rfl fun x => Zak (.cons oUp .nil) mixed Tryz.func69 rfl rfl rfl (by
  have e : ask Tryz.prog [(119, sUp)] Tryz.f69 [I x] (fun r => r = B (clk x)) = (B (clk x) = B (clk x)) := by kernel_rfl
  rw [e])
def wmay (v c l : Int) : Bool := val8 v && (clk c && upto l 0 255)
def Zfm : Spec := fun ds Q => match ds with | [.agg [.v (.int .i64 a), .v (.int .i64 b), .v (.int .i64 c)]] => Q (B (wmay a b c)) | _ => False
def sOdd : Spec := fun ds Q => match ds with | [.agg [.v (.int .i64 a), .v (.int .i64 b), .v (.int .i64 c)]] => Q (B (!wmay a b c)) | _ => False
theorem Zwq (a b c : Int) (K : DV → Prop) : (ask Tryz.prog [(115, sB val8), (102, sB clk), (150, sIn)] Tryz.f100 [.agg [vi a, vi b, vi c]] K) = (bif val8 a then bif clk b then K (DV.c (D.v (Value.bool (upto c (0) (255))))) else K (DV.c (D.v (Value.bool false))) else K (DV.c (D.v (Value.bool false)))) := by kernel_rfl
theorem Zvg (a b c : Int) (K : DV → Prop) : (ask Tryz.prog [(91, sB val8), (69, sB clk), (119, sUp)] Tryz.f118 [.agg [vi a, vi b, vi c]] K) = (bif val8 a then bif clk b then K (DV.c (D.v (Value.bool (upto c (0) (255))))) else K (DV.c (D.v (Value.bool false))) else K (DV.c (D.v (Value.bool false)))) := by kernel_rfl
theorem eOdd (a b c : Int) (K : DV → Prop) : (ask Tryz.prog [(100, Zfm)] Tryz.f99 [.agg [vi a, vi b, vi c]] K) = (K (DV.c (D.v (Value.bool !wmay a b c)))) := by kernel_rfl
theorem Zwm : Zad Tryz.prog 100 Zfm := o_of Tryz.func100 (by kernel_rfl) rfl fun ds Q h => by
  unfold Zfm at h; split at h
  · refine ⟨_, Zak (.cons oVal (.cons oClk (.cons oIn .nil))) mixed Tryz.func100 rfl rfl rfl ?_, rfl, rfl, h⟩
    rw [Zwq]; simp only [bifK]; rfl
  · exact h.elim
theorem ZmG : Zad Tryz.prog 118 Zfm := o_of Tryz.func118 (by kernel_rfl) rfl fun ds Q h => by
  unfold Zfm at h; split at h
  · refine ⟨_, Zak (.cons ZgR (.cons Zhq (.cons oUp .nil))) mixed Tryz.func118 rfl rfl rfl ?_, rfl, rfl, h⟩
    rw [Zvg]; simp only [bifK]; rfl
  · exact h.elim
theorem oOdd : Zad Tryz.prog 99 sOdd := o_of Tryz.func99 (by kernel_rfl) rfl fun ds Q h => by
  unfold sOdd at h; split at h
  · refine ⟨_, Zak (.cons Zwm .nil) mixed Tryz.func99 rfl rfl rfl ?_, rfl, rfl, h⟩
    rw [eOdd]
  · exact h.elim
def ZbA (r : List Int) : Bool := wmay (r.getD 0 0) (r.getD 1 0) (r.getD 2 0)
def fx (l : List (List Int)) : Option Nat := l.findIdx? fun r => !ZbA r
def idxF (l : List (List Int)) : Int := match fx l with | some i => (i : Int) | none => -1
def stIx (R sp : List (List D)) (i v : Int) : X := ⟨mkT 19 [(0, aS 3 R sp), (1, .c (.d (.f 99 [] []))), (4, ai v), (7, ai R.length), (8, ai i)], [], [], []⟩
def vIx (R sp : List (List D)) (y : X) : X := stIx R sp (ZbY y 8) (ZbY y 4)
theorem eIxr (R sp : List (List D)) (i v : Int) (N : X → Prop) (E : Exit → X → Prop) : (ZaA band bor Tryz.prog [(99, sOdd)] [] Tryz.f151 0 [0, 1, 4, 7, 8] [] (vIx R sp) (vIx R sp) N E (stIx R sp i v)) = (bif decide (i < @Nat.cast Int _ (List.length R)) then bif decide (0 ≤ i) && decide (i < @Nat.cast Int _ (List.length R)) then bif isJ [IntKind.i64, IntKind.i64, IntKind.i64] (List.drop (0) (List.getD R (Int.toNat i) [])) then bif !wmay (hdJ (List.drop (0) (List.getD R (Int.toNat i) []))) (hdJ (List.tail (List.drop (0) (List.getD R (Int.toNat i) [])))) (hdJ (List.tail (List.tail (List.drop (0) (List.getD R (Int.toNat i) []))))) then stIx R sp i i = stIx R sp i i ∧ E Exit.ret (stIx R sp i i) else stIx R sp (IntKind.wrap IntKind.i64 (i + 1)) v = stIx R sp (IntKind.wrap IntKind.i64 (i + 1)) v ∧ N (stIx R sp (IntKind.wrap IntKind.i64 (i + 1)) v) else False else False else stIx R sp i v = stIx R sp i v ∧ E (Exit.exit (0)) (stIx R sp i v)) := by kernel_rfl
def Zsg (l : List (List Int)) (sp : List (List D)) : LSum := fun Q x => x.only [0, 1, 4, 7, 8] [] = stIx (mZ l) sp 0 0 ∧ (∀ i : Nat, fx l = some i → Q .ret (stIx (mZ l) sp i i)) ∧ (fx l = none → Q (.exit 0) (stIx (mZ l) sp l.length 0))
theorem eIx (l : List (List Int)) (sp : List (List D)) (K : DV → Prop) : (askL Tryz.prog [] [(2, Zsg l sp)] Tryz.f151 [dS 3 (mZ l) sp, .c (.f 99 [] [])] K) = (stIx (mZ l) sp (0) (0) = stIx (mZ l) sp (0) (0) ∧ (∀ (i : Nat), fx l = some i → K (DV.c (D.v (Value.int IntKind.i64 (@Nat.cast Int _ i))))) ∧ (fx l = none → K (DV.c (D.v (Value.int IntKind.i64 (-1)))))) := by kernel_rfl
theorem Zvz {l : List (List Int)} {sp : List (List D)} (hw : wid 3 l) (hn : l.length ≤ 9223372036854775807) (Q : Exit → X → Prop) (x : X) (h : Zsg l sp Q x) : XWP Tryz.prog (.loop (Zal Tryz.f151 0)) Q x := by
  obtain ⟨h1, h2, h3⟩ := h
  refine Zas (ι := Nat) (H := hkA band bor [(99, sOdd)] []) (fn := Tryz.f151) (i := 0) (ts := [0, 1, 4, 7, 8]) (ks := []) (ZaJ (.cons oOdd .nil)) mixed (Zae rfl)
    (fun i => stIx (mZ l) sp i 0) (fun i => i ≤ l.length ∧ ∀ j, j < i → ZbA (l.getD j []) = true) (fun i => l.length - i) 0 (vIx (mZ l) sp) (vIx (mZ l) sp) (fun i hp => ?_) ⟨Nat.zero_le _, fun j hj => by omega⟩ h1
  obtain ⟨hi, hj⟩ := hp
  show ZaA band bor Tryz.prog _ _ Tryz.f151 0 _ _ _ _ _ _ _
  rw [eIxr]
  by_cases hl : i < l.length
  · have wi : IntKind.wrap .i64 ((i : Int) + 1) = ((i + 1 : Nat) : Int) := Zaj (n := 1) (by omega)
    have hj1 : isJ [IntKind.i64, IntKind.i64, IntKind.i64] ((mZ l).getD i []) = true := Zau (j := 0) (n := 3) hw hl (by omega)
    simp only [Zai, Int.ofNat_lt, hl, decide_true, cond_true, Int.natCast_nonneg, Bool.and_self, Int.toNat_natCast, ZaV, ZaT, hj1, List.drop_zero, ZaF, true_and, wi]
    have e : ZbA (l.getD i []) = wmay ((l.getD i []).getD 0 0) ((l.getD i []).getD 1 0) ((l.getD i []).getD 2 0) := rfl
    rw [← e]
    cases ho : ZbA (l.getD i []) with
    | false =>
      refine h2 i ?_
      rw [fx, List.findIdx?_eq_some_iff_getElem]
      refine ⟨hl, ?_, fun j hji => ?_⟩
      · have : l.getD i [] = l[i] := by simp [List.getD_eq_getElem?_getD, hl]
        rw [this] at ho; simp [ho]
      · have := hj j hji
        have hjl : j < l.length := by omega
        have e2 : l.getD j [] = l[j] := by simp [List.getD_eq_getElem?_getD, hjl]
        rw [e2] at this; simp [this]
    | true =>
      refine ⟨i + 1, by omega, ⟨hl, fun j hji => ?_⟩, rfl⟩
      rcases Nat.lt_succ_iff_lt_or_eq.1 hji with hji | rfl
      · exact hj j hji
      · exact ho
  · have e : i = l.length := by omega
    subst e
    simp only [Zai, Int.ofNat_lt, Nat.lt_irrefl, decide_false, cond_false, true_and]
    refine h3 ?_
    rw [fx, List.findIdx?_eq_none_iff]
    intro x hx
    obtain ⟨j, hj', rfl⟩ := List.mem_iff_getElem.1 hx
    have := hj j hj'
    have e2 : l.getD j [] = l[j] := by simp [List.getD_eq_getElem?_getD, hj']
    rw [e2] at this; simp [this]
def sIx : Spec := fun ds Q => match ds with | [.c (.s 0 3 R sp), .c (.f 99 [] [])] => cond (okZ 3 R) (Q (I (idxF (toZ R)))) False | _ => False
theorem oIx : Zad Tryz.prog 151 sIx := o_of Tryz.func151 (by kernel_rfl) rfl fun ds Q h => by
  unfold sIx at h; split at h
  · rename_i R sp
    obtain ⟨h1, h2⟩ := Zag h
    obtain ⟨e1, w1, n1⟩ := Zah h1
    rw [e1]
    rw [← Zan R] at n1
    generalize toZ R = l at *
    refine ⟨_, ZaB (l := []) (m := [(2, Zsg l sp)]) .nil mixed (Za9 rfl (by kernel_rfl) (Zvz w1 n1)) Tryz.func151 rfl rfl rfl ?_, rfl, rfl, h2⟩
    rw [eIx]
    refine ⟨rfl, fun i hi => ?_, fun hn => ?_⟩
    · simp [idxF, hi]
    · simp [idxF, hn]
  · exact h.elim
def badW (l : List (List Int)) : Bool := l.any fun r => !ZbA r
theorem Ztj (l : List (List Int)) : decide (idxF l ≥ 0) = badW l := by
  unfold idxF
  cases h : fx l with
  | some i =>
    have : badW l = true := by
      rw [fx, List.findIdx?_eq_some_iff_getElem] at h
      obtain ⟨h1, h2, _⟩ := h
      exact List.any_eq_true.2 ⟨_, List.getElem_mem h1, h2⟩
    rw [this]; simp
  | none =>
    have : badW l = false := by
      rw [fx, List.findIdx?_eq_none_iff] at h
      unfold badW
      rw [List.any_eq_false]; intro x hx; simpa using h x hx
    rw [this]; rfl
theorem eCon (R sp : List (List D)) (K : DV → Prop) : (ask Tryz.prog [(151, sIx)] Tryz.f101 [dS 3 R sp, .c (.f 99 [] [])] K) = (bif okZ (3) R then K (DV.c (D.v (Value.bool (decide (idxF (toZ R) ≥ 0))))) else False) := by kernel_rfl
def sCon : Spec := fun ds Q => match ds with | [.c (.s 0 3 R sp), .c (.f 99 [] [])] => cond (okZ 3 R) (Q (B (badW (toZ R)))) False | _ => False
theorem oCon : Zad Tryz.prog 101 sCon := o_of Tryz.func101 (by kernel_rfl) rfl fun ds Q h => by
  unfold sCon at h; split at h
  · obtain ⟨h1, h2⟩ := Zag h
    refine ⟨_, Zak (.cons oIx .nil) mixed Tryz.func101 rfl rfl rfl ?_, rfl, rfl, h2⟩
    rw [eCon, h1, Ztj]; rfl
  · exact h.elim
abbrev dA (R0 p0 R1 p1 R2 p2 R3 p3 : List (List D)) : DV := .agg [.s 0 3 R0 p0, .s 0 3 R1 p1, .s 0 3 R2 p2, .s 0 3 R3 p3]
def ZaM (l : List (List Int)) : Bool := !(decide (l.length > 4) || badW l)
def amay (a b c d : List (List Int)) : Bool := ZaM a && (ZaM b && (ZaM c && ZaM d))
theorem Zw0 (R0 p0 R1 p1 R2 p2 R3 p3 : List (List D)) (K : DV → Prop) : (ask Tryz.prog [(101, sCon)] Tryz.f60 [dA R0 p0 R1 p1 R2 p2 R3 p3] K) = (bif decide (@Nat.cast Int _ (List.length R0) > 4) then K (DV.c (D.v (Value.bool false))) else bif okZ (3) R0 then bif badW (toZ R0) then K (DV.c (D.v (Value.bool false))) else bif decide (@Nat.cast Int _ (List.length R1) > 4) then K (DV.c (D.v (Value.bool false))) else bif okZ (3) R1 then bif badW (toZ R1) then K (DV.c (D.v (Value.bool false))) else bif decide (@Nat.cast Int _ (List.length R2) > 4) then K (DV.c (D.v (Value.bool false))) else bif okZ (3) R2 then bif badW (toZ R2) then K (DV.c (D.v (Value.bool false))) else bif decide (@Nat.cast Int _ (List.length R3) > 4) then K (DV.c (D.v (Value.bool false))) else bif okZ (3) R3 then bif badW (toZ R3) then K (DV.c (D.v (Value.bool false))) else K (DV.c (D.v (Value.bool true))) else False else False else False else False) := by kernel_rfl
end

section
open Go Go.Proofs
abbrev pA (R0 p0 R1 p1 R2 p2 R3 p3 : List (List D)) : DV := .c (.p 0 [.s 0 3 R0 p0, .s 0 3 R1 p1, .s 0 3 R2 p2, .s 0 3 R3 p3] 0)
def okA (R0 R1 R2 R3 : List (List D)) : Bool := okZ 3 R0 && (okZ 3 R1 && (okZ 3 R2 && okZ 3 R3))
theorem Zb1 {R0 R1 R2 R3 : List (List D)} (h : okA R0 R1 R2 R3 = true) : okZ 3 R0 = true ∧ okZ 3 R1 = true ∧ okZ 3 R2 = true ∧ okZ 3 R3 = true := by simpa [okA, Bool.and_eq_true] using h
def Zce : Spec := fun ds Q => match ds with | [.agg [.s 0 3 R0 p0, .s 0 3 R1 p1, .s 0 3 R2 p2, .s 0 3 R3 p3]] => cond (okA R0 R1 R2 R3) (Q (B (amay (toZ R0) (toZ R1) (toZ R2) (toZ R3)))) False | _ => False
theorem Zn7 (R : List (List D)) : ZaM (toZ R) = (!decide ((R.length : Int) > 4) && !badW (toZ R)) := by
  unfold ZaM
  rw [Zan]
  have : decide ((R.length : Int) > 4) = decide (R.length > 4) := by congr 1; exact propext ⟨fun h => by omega, fun h => by omega⟩
  rw [this]; cases decide (R.length > 4) <;> rfl
theorem Zj1 : Zad Tryz.prog 60 Zce := o_of Tryz.func60 (by kernel_rfl) rfl fun ds Q h => by
  unfold Zce at h; split at h
  · rename_i R0 p0 R1 p1 R2 p2 R3 p3
    obtain ⟨h1, h2⟩ := Zag h
    obtain ⟨a0, a1, a2, a3⟩ := Zb1 h1
    refine ⟨_, Zak (.cons oCon .nil) mixed Tryz.func60 rfl rfl rfl ?_, rfl, rfl, h2⟩
    rw [Zw0]
    simp only [a0, a1, a2, a3, cond_true, amay, Zn7]
    cases decide ((R0.length : Int) > 4) <;> cases badW (toZ R0) <;> cases decide ((R1.length : Int) > 4) <;> cases badW (toZ R1) <;> cases decide ((R2.length : Int) > 4) <;> cases badW (toZ R2) <;> cases decide ((R3.length : Int) > 4) <;> cases badW (toZ R3) <;> rfl
  · exact h.elim
def stAM (R0 p0 R1 p1 R2 p2 R3 p3 : List (List D)) (g i : Int) (p : Bool) : X := ⟨mkT 29 [(1, .c (.rp 2 0 4 0 0)), (2, ab p), (3, ai g), (4, ai i)], [(2, .bx 0 4 [.d (.s 0 3 R0 p0), .d (.s 0 3 R1 p1), .d (.s 0 3 R2 p2), .d (.s 0 3 R3 p3)])], [], []⟩
def vAM (R0 p0 R1 p1 R2 p2 R3 p3 : List (List D)) (g : Int) (y : X) : X := stAM R0 p0 R1 p1 R2 p2 R3 p3 g (ZbY y 4) (Zjf y 2)
theorem eThr (R0 p0 R1 p1 R2 p2 R3 p3 : List (List D)) (lv num : Int) (K : DV → Prop) : (ask Tryz.prog [(64, sB lab)] Tryz.f157 [pA R0 p0 R1 p1 R2 p2 R3 p3, I lv, I num] K) = (bif lab lv then bif decide (num ≥ 0) then bif decide (lv = 0) then K (DV.c (D.v (Value.bool (decide (num < @Nat.cast Int _ (List.length R0)))))) else bif decide (lv = 1) then K (DV.c (D.v (Value.bool (decide (num < @Nat.cast Int _ (List.length R1)))))) else bif decide (lv = 2) then K (DV.c (D.v (Value.bool (decide (num < @Nat.cast Int _ (List.length R2)))))) else bif decide (lv = 3) then K (DV.c (D.v (Value.bool (decide (num < @Nat.cast Int _ (List.length R3)))))) else False else K (DV.c (D.v (Value.bool false))) else K (DV.c (D.v (Value.bool false)))) := by kernel_rfl
theorem Zw3 (R0 p0 R1 p1 R2 p2 R3 p3 : List (List D)) (lv num : Int) (K : DV → Prop) : (ask Tryz.prog [(71, sB lab)] Tryz.f164 [dA R0 p0 R1 p1 R2 p2 R3 p3, I lv, I num] K) = (bif lab lv then bif decide (num ≥ 0) then bif decide (lv = 0) then K (DV.c (D.v (Value.bool (decide (num < @Nat.cast Int _ (List.length R0)))))) else bif decide (lv = 1) then K (DV.c (D.v (Value.bool (decide (num < @Nat.cast Int _ (List.length R1)))))) else bif decide (lv = 2) then K (DV.c (D.v (Value.bool (decide (num < @Nat.cast Int _ (List.length R2)))))) else bif decide (lv = 3) then K (DV.c (D.v (Value.bool (decide (num < @Nat.cast Int _ (List.length R3)))))) else False else K (DV.c (D.v (Value.bool false))) else K (DV.c (D.v (Value.bool false)))) := by kernel_rfl
theorem ZvC (R0 p0 R1 p1 R2 p2 R3 p3 : List (List D)) (i : Int) (p : Bool) (N : X → Prop) (E : Exit → X → Prop) : (ZaA band bor Tryz.prog [(118, Zfm)] [] Tryz.f68 1 [1, 2, 3, 4] [2] (vAM R0 p0 R1 p1 R2 p2 R3 p3 0) (vAM R0 p0 R1 p1 R2 p2 R3 p3 0) N E (stAM R0 p0 R1 p1 R2 p2 R3 p3 0 i p)) = (bif decide (i < @Nat.cast Int _ (List.length R0)) then bif decide (i ≥ 4) then stAM R0 p0 R1 p1 R2 p2 R3 p3 (0) i false = stAM R0 p0 R1 p1 R2 p2 R3 p3 (0) i false ∧ E Exit.ret (stAM R0 p0 R1 p1 R2 p2 R3 p3 (0) i false) else bif decide (0 ≤ i) && decide (i < @Nat.cast Int _ (List.length R0)) then bif isJ [IntKind.i64, IntKind.i64, IntKind.i64] (List.drop (0) (List.getD R0 (Int.toNat i) [])) then bif !wmay (hdJ (List.drop (0) (List.getD R0 (Int.toNat i) []))) (hdJ (List.tail (List.drop (0) (List.getD R0 (Int.toNat i) [])))) (hdJ (List.tail (List.tail (List.drop (0) (List.getD R0 (Int.toNat i) []))))) then stAM R0 p0 R1 p1 R2 p2 R3 p3 (0) i false = stAM R0 p0 R1 p1 R2 p2 R3 p3 (0) i false ∧ E Exit.ret (stAM R0 p0 R1 p1 R2 p2 R3 p3 (0) i false) else stAM R0 p0 R1 p1 R2 p2 R3 p3 (0) (IntKind.wrap IntKind.i64 (i + 1)) p = stAM R0 p0 R1 p1 R2 p2 R3 p3 (0) (IntKind.wrap IntKind.i64 (i + 1)) p ∧ N (stAM R0 p0 R1 p1 R2 p2 R3 p3 (0) (IntKind.wrap IntKind.i64 (i + 1)) p) else False else False else stAM R0 p0 R1 p1 R2 p2 R3 p3 (0) i p = stAM R0 p0 R1 p1 R2 p2 R3 p3 (0) i p ∧ E (Exit.exit (2)) (stAM R0 p0 R1 p1 R2 p2 R3 p3 (0) i p)) := by kernel_rfl
theorem Zxh (R0 p0 R1 p1 R2 p2 R3 p3 : List (List D)) (i : Int) (p : Bool) (N : X → Prop) (E : Exit → X → Prop) : (ZaA band bor Tryz.prog [(118, Zfm)] [] Tryz.f68 1 [1, 2, 3, 4] [2] (vAM R0 p0 R1 p1 R2 p2 R3 p3 1) (vAM R0 p0 R1 p1 R2 p2 R3 p3 1) N E (stAM R0 p0 R1 p1 R2 p2 R3 p3 1 i p)) = (bif decide (i < @Nat.cast Int _ (List.length R1)) then bif decide (i ≥ 4) then stAM R0 p0 R1 p1 R2 p2 R3 p3 (1) i false = stAM R0 p0 R1 p1 R2 p2 R3 p3 (1) i false ∧ E Exit.ret (stAM R0 p0 R1 p1 R2 p2 R3 p3 (1) i false) else bif decide (0 ≤ i) && decide (i < @Nat.cast Int _ (List.length R1)) then bif isJ [IntKind.i64, IntKind.i64, IntKind.i64] (List.drop (0) (List.getD R1 (Int.toNat i) [])) then bif !wmay (hdJ (List.drop (0) (List.getD R1 (Int.toNat i) []))) (hdJ (List.tail (List.drop (0) (List.getD R1 (Int.toNat i) [])))) (hdJ (List.tail (List.tail (List.drop (0) (List.getD R1 (Int.toNat i) []))))) then stAM R0 p0 R1 p1 R2 p2 R3 p3 (1) i false = stAM R0 p0 R1 p1 R2 p2 R3 p3 (1) i false ∧ E Exit.ret (stAM R0 p0 R1 p1 R2 p2 R3 p3 (1) i false) else stAM R0 p0 R1 p1 R2 p2 R3 p3 (1) (IntKind.wrap IntKind.i64 (i + 1)) p = stAM R0 p0 R1 p1 R2 p2 R3 p3 (1) (IntKind.wrap IntKind.i64 (i + 1)) p ∧ N (stAM R0 p0 R1 p1 R2 p2 R3 p3 (1) (IntKind.wrap IntKind.i64 (i + 1)) p) else False else False else stAM R0 p0 R1 p1 R2 p2 R3 p3 (1) i p = stAM R0 p0 R1 p1 R2 p2 R3 p3 (1) i p ∧ E (Exit.exit (2)) (stAM R0 p0 R1 p1 R2 p2 R3 p3 (1) i p)) := by kernel_rfl
theorem Zxd (R0 p0 R1 p1 R2 p2 R3 p3 : List (List D)) (i : Int) (p : Bool) (N : X → Prop) (E : Exit → X → Prop) : (ZaA band bor Tryz.prog [(118, Zfm)] [] Tryz.f68 1 [1, 2, 3, 4] [2] (vAM R0 p0 R1 p1 R2 p2 R3 p3 2) (vAM R0 p0 R1 p1 R2 p2 R3 p3 2) N E (stAM R0 p0 R1 p1 R2 p2 R3 p3 2 i p)) = (bif decide (i < @Nat.cast Int _ (List.length R2)) then bif decide (i ≥ 4) then stAM R0 p0 R1 p1 R2 p2 R3 p3 (2) i false = stAM R0 p0 R1 p1 R2 p2 R3 p3 (2) i false ∧ E Exit.ret (stAM R0 p0 R1 p1 R2 p2 R3 p3 (2) i false) else bif decide (0 ≤ i) && decide (i < @Nat.cast Int _ (List.length R2)) then bif isJ [IntKind.i64, IntKind.i64, IntKind.i64] (List.drop (0) (List.getD R2 (Int.toNat i) [])) then bif !wmay (hdJ (List.drop (0) (List.getD R2 (Int.toNat i) []))) (hdJ (List.tail (List.drop (0) (List.getD R2 (Int.toNat i) [])))) (hdJ (List.tail (List.tail (List.drop (0) (List.getD R2 (Int.toNat i) []))))) then stAM R0 p0 R1 p1 R2 p2 R3 p3 (2) i false = stAM R0 p0 R1 p1 R2 p2 R3 p3 (2) i false ∧ E Exit.ret (stAM R0 p0 R1 p1 R2 p2 R3 p3 (2) i false) else stAM R0 p0 R1 p1 R2 p2 R3 p3 (2) (IntKind.wrap IntKind.i64 (i + 1)) p = stAM R0 p0 R1 p1 R2 p2 R3 p3 (2) (IntKind.wrap IntKind.i64 (i + 1)) p ∧ N (stAM R0 p0 R1 p1 R2 p2 R3 p3 (2) (IntKind.wrap IntKind.i64 (i + 1)) p) else False else False else stAM R0 p0 R1 p1 R2 p2 R3 p3 (2) i p = stAM R0 p0 R1 p1 R2 p2 R3 p3 (2) i p ∧ E (Exit.exit (2)) (stAM R0 p0 R1 p1 R2 p2 R3 p3 (2) i p)) := by kernel_rfl
theorem Zw2 (R0 p0 R1 p1 R2 p2 R3 p3 : List (List D)) (i : Int) (p : Bool) (N : X → Prop) (E : Exit → X → Prop) : (ZaA band bor Tryz.prog [(118, Zfm)] [] Tryz.f68 1 [1, 2, 3, 4] [2] (vAM R0 p0 R1 p1 R2 p2 R3 p3 3) (vAM R0 p0 R1 p1 R2 p2 R3 p3 3) N E (stAM R0 p0 R1 p1 R2 p2 R3 p3 3 i p)) = (bif decide (i < @Nat.cast Int _ (List.length R3)) then bif decide (i ≥ 4) then stAM R0 p0 R1 p1 R2 p2 R3 p3 (3) i false = stAM R0 p0 R1 p1 R2 p2 R3 p3 (3) i false ∧ E Exit.ret (stAM R0 p0 R1 p1 R2 p2 R3 p3 (3) i false) else bif decide (0 ≤ i) && decide (i < @Nat.cast Int _ (List.length R3)) then bif isJ [IntKind.i64, IntKind.i64, IntKind.i64] (List.drop (0) (List.getD R3 (Int.toNat i) [])) then bif !wmay (hdJ (List.drop (0) (List.getD R3 (Int.toNat i) []))) (hdJ (List.tail (List.drop (0) (List.getD R3 (Int.toNat i) [])))) (hdJ (List.tail (List.tail (List.drop (0) (List.getD R3 (Int.toNat i) []))))) then stAM R0 p0 R1 p1 R2 p2 R3 p3 (3) i false = stAM R0 p0 R1 p1 R2 p2 R3 p3 (3) i false ∧ E Exit.ret (stAM R0 p0 R1 p1 R2 p2 R3 p3 (3) i false) else stAM R0 p0 R1 p1 R2 p2 R3 p3 (3) (IntKind.wrap IntKind.i64 (i + 1)) p = stAM R0 p0 R1 p1 R2 p2 R3 p3 (3) (IntKind.wrap IntKind.i64 (i + 1)) p ∧ N (stAM R0 p0 R1 p1 R2 p2 R3 p3 (3) (IntKind.wrap IntKind.i64 (i + 1)) p) else False else False else stAM R0 p0 R1 p1 R2 p2 R3 p3 (3) i p = stAM R0 p0 R1 p1 R2 p2 R3 p3 (3) i p ∧ E (Exit.exit (2)) (stAM R0 p0 R1 p1 R2 p2 R3 p3 (3) i p)) := by kernel_rfl
def sAMg (st : Int → Bool → X) (l : List (List Int)) : LSum := fun Q x => x.only [1, 2, 3, 4] [2] = st 0 false ∧ (ZaM l = false → ∀ i : Int, Q .ret (st i false)) ∧ (ZaM l = true → Q (.exit 2) (st l.length false))
def ZsB (R0 p0 R1 p1 R2 p2 R3 p3 : List (List D)) : LSum := fun Q x => ZpV x 3 fun g =>
  cond (decide (g = 0)) (sAMg (stAM R0 p0 R1 p1 R2 p2 R3 p3 0) (toZ R0) Q x) (cond (decide (g = 1)) (sAMg (stAM R0 p0 R1 p1 R2 p2 R3 p3 1) (toZ R1) Q x) (cond (decide (g = 2)) (sAMg (stAM R0 p0 R1 p1 R2 p2 R3 p3 2) (toZ R2) Q x) (sAMg (stAM R0 p0 R1 p1 R2 p2 R3 p3 3) (toZ R3) Q x)))
theorem Zuf (R0 p0 R1 p1 R2 p2 R3 p3 : List (List D)) (K : DV → Prop) : (askL Tryz.prog [] [(5, ZsB R0 p0 R1 p1 R2 p2 R3 p3)] Tryz.f68 [dA R0 p0 R1 p1 R2 p2 R3 p3] K) = (stAM R0 p0 R1 p1 R2 p2 R3 p3 (0) (0) false = stAM R0 p0 R1 p1 R2 p2 R3 p3 (0) (0) false ∧ (ZaM (toZ R0) = false → ∀ (i : Int), K (DV.c (D.v (Value.bool false)))) ∧ (ZaM (toZ R0) = true → stAM R0 p0 R1 p1 R2 p2 R3 p3 (1) (0) false = stAM R0 p0 R1 p1 R2 p2 R3 p3 (1) (0) false ∧ (ZaM (toZ R1) = false → ∀ (i : Int), K (DV.c (D.v (Value.bool false)))) ∧ (ZaM (toZ R1) = true → stAM R0 p0 R1 p1 R2 p2 R3 p3 (2) (0) false = stAM R0 p0 R1 p1 R2 p2 R3 p3 (2) (0) false ∧ (ZaM (toZ R2) = false → ∀ (i : Int), K (DV.c (D.v (Value.bool false)))) ∧ (ZaM (toZ R2) = true → stAM R0 p0 R1 p1 R2 p2 R3 p3 (3) (0) false = stAM R0 p0 R1 p1 R2 p2 R3 p3 (3) (0) false ∧ (ZaM (toZ R3) = false → ∀ (i : Int), K (DV.c (D.v (Value.bool false)))) ∧ (ZaM (toZ R3) = true → K (DV.c (D.v (Value.bool true)))))))) := by kernel_rfl
theorem Zbe {l : List (List Int)} {i : Nat} (hi : i < l.length) (h : ZbA (l.getD i []) = false) : ZaM l = false := by
  have e : l.getD i [] = l[i] := by simp [List.getD_eq_getElem?_getD, hi]
  rw [e] at h
  have : badW l = true := List.any_eq_true.2 ⟨_, List.getElem_mem hi, by simp [h]⟩
  simp [ZaM, this]
theorem Zbp {l : List (List Int)} (h : 4 < l.length) : ZaM l = false := by simp [ZaM, h]
theorem ZbH {l : List (List Int)} (h : l.length ≤ 4) (ha : ∀ j, j < l.length → ZbA (l.getD j []) = true) : ZaM l = true := by
  have : badW l = false := by
    unfold badW
    rw [List.any_eq_false]
    intro x hx
    obtain ⟨j, hj', rfl⟩ := List.mem_iff_getElem.1 hx
    have := ha j hj'
    have e2 : l.getD j [] = l[j] := by simp [List.getD_eq_getElem?_getD, hj']
    rw [e2] at this; simp [this]
  have h4 : ¬ l.length > 4 := by omega
  simp [ZaM, this, h4]
theorem ZpN {P : Program} {l : List (FuncId × Spec)} {fn : Func} {k : Nat} {s : LSum} (hn : (Zbd (Zav fn)).length = 2) (hk0 : (hkl l [(k, s)]).loop (ZbI (Zal fn 0)) = none) (hk : ZbI (Zal fn 1) = k) (h : ∀ Q x, s Q x → XWP P (.loop (Zal fn 1)) Q x) : Zaz P (hkl l [(k, s)]) (Zav fn) :=
  Zc9 2 hn fun i hi s' hs Q x hq => by
    match i, hi with
    | 0, _ => rw [hk0] at hs; cases hs
    | 1, _ =>
      rw [hk] at hs
      have hs' : some s = some s' := by simpa [Zdu, hkl, hkA, Zbm] using hs
      cases hs'
      exact h Q x hq
theorem ZuX {l : List (List Int)} {sp R1 p1 R2 p2 R3 p3 : List (List D)} (hw : wid 3 l) (hn : l.length ≤ 9223372036854775807) (Q : Exit → X → Prop) (x : X) (h : sAMg (stAM (mZ l) sp R1 p1 R2 p2 R3 p3 0) l Q x) : XWP Tryz.prog (.loop (Zal Tryz.f68 1)) Q x := by
  obtain ⟨h1, h2, h3⟩ := h
  refine Zas (ι := Nat) (H := hkA band bor [(118, Zfm)] []) (fn := Tryz.f68) (i := 1) (ts := [1, 2, 3, 4]) (ks := [2]) (ZaJ (.cons ZmG .nil)) mixed (Zae rfl)
    (fun i => stAM (mZ l) sp R1 p1 R2 p2 R3 p3 0 i false) (fun i => i ≤ l.length ∧ i ≤ 4 ∧ ∀ j, j < i → ZbA (l.getD j []) = true) (fun i => l.length - i) 0 (vAM (mZ l) sp R1 p1 R2 p2 R3 p3 0) (vAM (mZ l) sp R1 p1 R2 p2 R3 p3 0) (fun i hp => ?_) ⟨Nat.zero_le _, Nat.zero_le _, fun j hj => by omega⟩ h1
  obtain ⟨hi, h4, hj⟩ := hp
  show ZaA band bor Tryz.prog _ _ Tryz.f68 1 _ _ _ _ _ _ _
  rw [ZvC]
  by_cases hl : i < l.length
  · by_cases h4' : i = 4
    · have e4 : decide ((i : Int) ≥ 4) = true := by simp; omega
      simp only [Zai, Int.ofNat_lt, hl, decide_true, cond_true, e4, true_and]
      exact h2 (Zbp (by omega)) _
    · have e4 : decide ((i : Int) ≥ 4) = false := by simp; omega
      have wi : IntKind.wrap .i64 ((i : Int) + 1) = ((i + 1 : Nat) : Int) := Zaj (n := 1) (by omega)
      have hj1 : isJ [IntKind.i64, IntKind.i64, IntKind.i64] ((mZ l).getD i []) = true := Zau (j := 0) (n := 3) hw hl (by omega)
      simp only [Zai, Int.ofNat_lt, hl, decide_true, cond_true, cond_false, e4, Int.natCast_nonneg, Bool.and_self, Int.toNat_natCast, ZaV, ZaT, hj1, List.drop_zero, ZaF, true_and, wi]
      have e : ZbA (l.getD i []) = wmay ((l.getD i []).getD 0 0) ((l.getD i []).getD 1 0) ((l.getD i []).getD 2 0) := rfl
      rw [← e]
      cases ho : ZbA (l.getD i []) with
      | false => exact h2 (Zbe hl ho) _
      | true =>
        refine ⟨i + 1, by omega, ⟨hl, by omega, fun j hji => ?_⟩, rfl⟩
        rcases Nat.lt_succ_iff_lt_or_eq.1 hji with hji | rfl
        · exact hj j hji
        · exact ho
  · have e : i = l.length := by omega
    subst e
    simp only [Zai, Int.ofNat_lt, Nat.lt_irrefl, decide_false, cond_false, true_and]
    exact h3 (ZbH h4 hj)
theorem ZtQ {l : List (List Int)} {sp R0 p0 R2 p2 R3 p3 : List (List D)} (hw : wid 3 l) (hn : l.length ≤ 9223372036854775807) (Q : Exit → X → Prop) (x : X) (h : sAMg (stAM R0 p0 (mZ l) sp R2 p2 R3 p3 1) l Q x) : XWP Tryz.prog (.loop (Zal Tryz.f68 1)) Q x := by
  obtain ⟨h1, h2, h3⟩ := h
  refine Zas (ι := Nat) (H := hkA band bor [(118, Zfm)] []) (fn := Tryz.f68) (i := 1) (ts := [1, 2, 3, 4]) (ks := [2]) (ZaJ (.cons ZmG .nil)) mixed (Zae rfl)
    (fun i => stAM R0 p0 (mZ l) sp R2 p2 R3 p3 1 i false) (fun i => i ≤ l.length ∧ i ≤ 4 ∧ ∀ j, j < i → ZbA (l.getD j []) = true) (fun i => l.length - i) 0 (vAM R0 p0 (mZ l) sp R2 p2 R3 p3 1) (vAM R0 p0 (mZ l) sp R2 p2 R3 p3 1) (fun i hp => ?_) ⟨Nat.zero_le _, Nat.zero_le _, fun j hj => by omega⟩ h1
  obtain ⟨hi, h4, hj⟩ := hp
  show ZaA band bor Tryz.prog _ _ Tryz.f68 1 _ _ _ _ _ _ _
  rw [Zxh]
  by_cases hl : i < l.length
  · by_cases h4' : i = 4
    · have e4 : decide ((i : Int) ≥ 4) = true := by simp; omega
      simp only [Zai, Int.ofNat_lt, hl, decide_true, cond_true, e4, true_and]
      exact h2 (Zbp (by omega)) _
    · have e4 : decide ((i : Int) ≥ 4) = false := by simp; omega
      have wi : IntKind.wrap .i64 ((i : Int) + 1) = ((i + 1 : Nat) : Int) := Zaj (n := 1) (by omega)
      have hj1 : isJ [IntKind.i64, IntKind.i64, IntKind.i64] ((mZ l).getD i []) = true := Zau (j := 0) (n := 3) hw hl (by omega)
      simp only [Zai, Int.ofNat_lt, hl, decide_true, cond_true, cond_false, e4, Int.natCast_nonneg, Bool.and_self, Int.toNat_natCast, ZaV, ZaT, hj1, List.drop_zero, ZaF, true_and, wi]
      have e : ZbA (l.getD i []) = wmay ((l.getD i []).getD 0 0) ((l.getD i []).getD 1 0) ((l.getD i []).getD 2 0) := rfl
      rw [← e]
      cases ho : ZbA (l.getD i []) with
      | false => exact h2 (Zbe hl ho) _
      | true =>
        refine ⟨i + 1, by omega, ⟨hl, by omega, fun j hji => ?_⟩, rfl⟩
        rcases Nat.lt_succ_iff_lt_or_eq.1 hji with hji | rfl
        · exact hj j hji
        · exact ho
  · have e : i = l.length := by omega
    subst e
    simp only [Zai, Int.ofNat_lt, Nat.lt_irrefl, decide_false, cond_false, true_and]
    exact h3 (ZbH h4 hj)
theorem Zt1 {l : List (List Int)} {sp R0 p0 R1 p1 R3 p3 : List (List D)} (hw : wid 3 l) (hn : l.length ≤ 9223372036854775807) (Q : Exit → X → Prop) (x : X) (h : sAMg (stAM R0 p0 R1 p1 (mZ l) sp R3 p3 2) l Q x) : XWP Tryz.prog (.loop (Zal Tryz.f68 1)) Q x := by
  obtain ⟨h1, h2, h3⟩ := h
  refine Zas (ι := Nat) (H := hkA band bor [(118, Zfm)] []) (fn := Tryz.f68) (i := 1) (ts := [1, 2, 3, 4]) (ks := [2]) (ZaJ (.cons ZmG .nil)) mixed (Zae rfl)
    (fun i => stAM R0 p0 R1 p1 (mZ l) sp R3 p3 2 i false) (fun i => i ≤ l.length ∧ i ≤ 4 ∧ ∀ j, j < i → ZbA (l.getD j []) = true) (fun i => l.length - i) 0 (vAM R0 p0 R1 p1 (mZ l) sp R3 p3 2) (vAM R0 p0 R1 p1 (mZ l) sp R3 p3 2) (fun i hp => ?_) ⟨Nat.zero_le _, Nat.zero_le _, fun j hj => by omega⟩ h1
  obtain ⟨hi, h4, hj⟩ := hp
  show ZaA band bor Tryz.prog _ _ Tryz.f68 1 _ _ _ _ _ _ _
  rw [Zxd]
  by_cases hl : i < l.length
  · by_cases h4' : i = 4
    · have e4 : decide ((i : Int) ≥ 4) = true := by simp; omega
      simp only [Zai, Int.ofNat_lt, hl, decide_true, cond_true, e4, true_and]
      exact h2 (Zbp (by omega)) _
    · have e4 : decide ((i : Int) ≥ 4) = false := by simp; omega
      have wi : IntKind.wrap .i64 ((i : Int) + 1) = ((i + 1 : Nat) : Int) := Zaj (n := 1) (by omega)
      have hj1 : isJ [IntKind.i64, IntKind.i64, IntKind.i64] ((mZ l).getD i []) = true := Zau (j := 0) (n := 3) hw hl (by omega)
      simp only [Zai, Int.ofNat_lt, hl, decide_true, cond_true, cond_false, e4, Int.natCast_nonneg, Bool.and_self, Int.toNat_natCast, ZaV, ZaT, hj1, List.drop_zero, ZaF, true_and, wi]
      have e : ZbA (l.getD i []) = wmay ((l.getD i []).getD 0 0) ((l.getD i []).getD 1 0) ((l.getD i []).getD 2 0) := rfl
      rw [← e]
      cases ho : ZbA (l.getD i []) with
      | false => exact h2 (Zbe hl ho) _
      | true =>
        refine ⟨i + 1, by omega, ⟨hl, by omega, fun j hji => ?_⟩, rfl⟩
        rcases Nat.lt_succ_iff_lt_or_eq.1 hji with hji | rfl
        · exact hj j hji
        · exact ho
  · have e : i = l.length := by omega
    subst e
    simp only [Zai, Int.ofNat_lt, Nat.lt_irrefl, decide_false, cond_false, true_and]
    exact h3 (ZbH h4 hj)
theorem ZtY {l : List (List Int)} {sp R0 p0 R1 p1 R2 p2 : List (List D)} (hw : wid 3 l) (hn : l.length ≤ 9223372036854775807) (Q : Exit → X → Prop) (x : X) (h : sAMg (stAM R0 p0 R1 p1 R2 p2 (mZ l) sp 3) l Q x) : XWP Tryz.prog (.loop (Zal Tryz.f68 1)) Q x := by
  obtain ⟨h1, h2, h3⟩ := h
  refine Zas (ι := Nat) (H := hkA band bor [(118, Zfm)] []) (fn := Tryz.f68) (i := 1) (ts := [1, 2, 3, 4]) (ks := [2]) (ZaJ (.cons ZmG .nil)) mixed (Zae rfl)
    (fun i => stAM R0 p0 R1 p1 R2 p2 (mZ l) sp 3 i false) (fun i => i ≤ l.length ∧ i ≤ 4 ∧ ∀ j, j < i → ZbA (l.getD j []) = true) (fun i => l.length - i) 0 (vAM R0 p0 R1 p1 R2 p2 (mZ l) sp 3) (vAM R0 p0 R1 p1 R2 p2 (mZ l) sp 3) (fun i hp => ?_) ⟨Nat.zero_le _, Nat.zero_le _, fun j hj => by omega⟩ h1
  obtain ⟨hi, h4, hj⟩ := hp
  show ZaA band bor Tryz.prog _ _ Tryz.f68 1 _ _ _ _ _ _ _
  rw [Zw2]
  by_cases hl : i < l.length
  · by_cases h4' : i = 4
    · have e4 : decide ((i : Int) ≥ 4) = true := by simp; omega
      simp only [Zai, Int.ofNat_lt, hl, decide_true, cond_true, e4, true_and]
      exact h2 (Zbp (by omega)) _
    · have e4 : decide ((i : Int) ≥ 4) = false := by simp; omega
      have wi : IntKind.wrap .i64 ((i : Int) + 1) = ((i + 1 : Nat) : Int) := Zaj (n := 1) (by omega)
      have hj1 : isJ [IntKind.i64, IntKind.i64, IntKind.i64] ((mZ l).getD i []) = true := Zau (j := 0) (n := 3) hw hl (by omega)
      simp only [Zai, Int.ofNat_lt, hl, decide_true, cond_true, cond_false, e4, Int.natCast_nonneg, Bool.and_self, Int.toNat_natCast, ZaV, ZaT, hj1, List.drop_zero, ZaF, true_and, wi]
      have e : ZbA (l.getD i []) = wmay ((l.getD i []).getD 0 0) ((l.getD i []).getD 1 0) ((l.getD i []).getD 2 0) := rfl
      rw [← e]
      cases ho : ZbA (l.getD i []) with
      | false => exact h2 (Zbe hl ho) _
      | true =>
        refine ⟨i + 1, by omega, ⟨hl, by omega, fun j hji => ?_⟩, rfl⟩
        rcases Nat.lt_succ_iff_lt_or_eq.1 hji with hji | rfl
        · exact hj j hji
        · exact ho
  · have e : i = l.length := by omega
    subst e
    simp only [Zai, Int.ofNat_lt, Nat.lt_irrefl, decide_false, cond_false, true_and]
    exact h3 (ZbH h4 hj)
theorem ZqF {R0 p0 R1 p1 R2 p2 R3 p3 : List (List D)} (h0 : okZ 3 R0 = true) (h1 : okZ 3 R1 = true) (h2 : okZ 3 R2 = true) (h3 : okZ 3 R3 = true) (Q : Exit → X → Prop) (x : X) (h : ZsB R0 p0 R1 p1 R2 p2 R3 p3 Q x) : XWP Tryz.prog (.loop (Zal Tryz.f68 1)) Q x := by
  obtain ⟨g, h⟩ := Zfc h
  obtain ⟨e0, w0, n0⟩ := Zah h0
  obtain ⟨e1, w1, n1⟩ := Zah h1
  obtain ⟨e2, w2, n2⟩ := Zah h2
  obtain ⟨e3, w3, n3⟩ := Zah h3
  rw [← Zan] at n0 n1 n2 n3
  cases hd : decide (g = 0) with
  | true =>
    rw [hd, cond_true] at h
    exact ZuX w0 n0 Q x (by rw [← e0]; exact h)
  | false =>
    rw [hd, cond_false] at h
    cases hd : decide (g = 1) with
    | true =>
      rw [hd, cond_true] at h
      exact ZtQ w1 n1 Q x (by rw [← e1]; exact h)
    | false =>
      rw [hd, cond_false] at h
      cases hd : decide (g = 2) with
      | true =>
        rw [hd, cond_true] at h
        exact Zt1 w2 n2 Q x (by rw [← e2]; exact h)
      | false =>
        rw [hd, cond_false] at h
        exact ZtY w3 n3 Q x (by rw [← e3]; exact h)
theorem Zg0 : Zad Tryz.prog 68 Zce := o_of Tryz.func68 (by kernel_rfl) rfl fun ds Q h => by
  unfold Zce at h; split at h
  · rename_i R0 p0 R1 p1 R2 p2 R3 p3
    obtain ⟨h1, h2⟩ := Zag h
    obtain ⟨a0, a1, a2, a3⟩ := Zb1 h1
    refine ⟨_, ZaB (l := []) (m := [(5, ZsB R0 p0 R1 p1 R2 p2 R3 p3)]) .nil mixed (ZpN rfl (by kernel_rfl) (by kernel_rfl) (ZqF a0 a1 a2 a3)) Tryz.func68 rfl rfl rfl ?_, rfl, rfl, h2⟩
    rw [Zuf]
    have key : ∀ p q : Bool, (p && q) = true → p = true := fun p q h => by simp at h; exact h.1
    simp only [amay, true_and]
    refine ⟨fun h _ => by rw [h]; rfl, fun h => ?_⟩
    rw [h]
    refine ⟨fun h _ => by rw [h]; rfl, fun h => ?_⟩
    rw [h]
    refine ⟨fun h _ => by rw [h]; rfl, fun h => ?_⟩
    rw [h]
    refine ⟨fun h _ => by rw [h]; rfl, fun h => ?_⟩
    rw [h]
    rfl
  · exact h.elim
def thr (n0 n1 n2 n3 : Nat) (lv num : Int) : Bool := bif lab lv then bif decide (num ≥ 0) then bif decide (lv = 0) then decide (num < (n0 : Int)) else bif decide (lv = 1) then decide (num < (n1 : Int)) else bif decide (lv = 2) then decide (num < (n2 : Int)) else decide (num < (n3 : Int)) else false else false
def sThr : Spec := fun ds Q => match ds with | [.c (.p 0 [.s 0 3 R0 p0, .s 0 3 R1 p1, .s 0 3 R2 p2, .s 0 3 R3 p3] 0), .c (.v (.int .i64 lv)), .c (.v (.int .i64 num))] => Q (B (thr R0.length R1.length R2.length R3.length lv num)) | _ => False
def Zfq : Spec := fun ds Q => match ds with | [.agg [.s 0 3 R0 p0, .s 0 3 R1 p1, .s 0 3 R2 p2, .s 0 3 R3 p3], .c (.v (.int .i64 lv)), .c (.v (.int .i64 num))] => Q (B (thr R0.length R1.length R2.length R3.length lv num)) | _ => False
theorem ZmF (n0 n1 n2 n3 : Nat) (lv num : Int) (K : DV → Prop) (h : K (B (thr n0 n1 n2 n3 lv num))) : bif lab lv then bif decide (num ≥ 0) then bif decide (lv = 0) then K (B (decide (num < (n0 : Int)))) else bif decide (lv = 1) then K (B (decide (num < (n1 : Int)))) else bif decide (lv = 2) then K (B (decide (num < (n2 : Int)))) else bif decide (lv = 3) then K (B (decide (num < (n3 : Int)))) else False else K (B false) else K (B false) := by
  unfold thr at h
  cases hl : lab lv with
  | false => rw [hl] at h; exact h
  | true =>
    rw [hl] at h
    have : decide (lv = 0) = false → decide (lv = 1) = false → decide (lv = 2) = false → decide (lv = 3) = true := fun h0 h1 h2 => by
      rcases ZoG hl with rfl | rfl | rfl | rfl <;> simp_all
    cases hn : decide (num ≥ 0) <;> rw [hn] at h <;> simp only [cond_true, cond_false] at h ⊢
    · exact h
    · cases h0 : decide (lv = 0) <;> rw [h0] at h <;> simp only [cond_true, cond_false] at h ⊢
      · cases h1 : decide (lv = 1) <;> rw [h1] at h <;> simp only [cond_true, cond_false] at h ⊢
        · cases h2 : decide (lv = 2) <;> rw [h2] at h <;> simp only [cond_true, cond_false] at h ⊢
          · rw [this h0 h1 h2]; exact h
          · exact h
        · exact h
      · exact h
theorem oThr : Zad Tryz.prog 157 sThr := o_of Tryz.func157 (by kernel_rfl) rfl fun ds Q h => by
  unfold sThr at h; split at h
  · refine ⟨_, Zak (.cons oLab .nil) mixed Tryz.func157 rfl rfl rfl ?_, rfl, rfl, h⟩
    rw [eThr]
    exact ZmF _ _ _ _ _ _ (fun r => r = _) rfl
  · exact h.elim
theorem ZjR : Zad Tryz.prog 164 Zfq := o_of Tryz.func164 (by kernel_rfl) rfl fun ds Q h => by
  unfold Zfq at h; split at h
  · refine ⟨_, Zak (.cons Zok .nil) mixed Tryz.func164 rfl rfl rfl ?_, rfl, rfl, h⟩
    rw [Zw3]
    exact ZmF _ _ _ _ _ _ (fun r => r = _) rfl
  · exact h.elim
end

section
open Go Go.Proofs
def selA {α : Type} (lv : Int) (a b c d : α) : α := bif decide (lv = 0) then a else bif decide (lv = 1) then b else bif decide (lv = 2) then c else d
def wrd (l : List (List Int)) (num : Int) : List Int := l.getD num.toNat []
def dW (r : List Int) : DV := .agg [vi (r.getD 0 0), vi (r.getD 1 0), vi (r.getD 2 0)]
abbrev dNil : DV := .agg [nilD, nilD, nilD, nilD]
abbrev dO (R0 R1 R2 R3 : List (List D)) : DV := .agg [.s 1 3 R0 [], .s 1 3 R1 [], .s 1 3 R2 [], .s 1 3 R3 []]
def gotA (a b c d : List (List Int)) (lv num : Int) (Q : DV → Prop) : Prop := cond (amay a b c d) (cond (thr a.length b.length c.length d.length lv num) (Q (.tup [dW (wrd (selA lv a b c d) num), I 0])) (Q (.tup [.agg [vi 0, vi 0, vi 0], I 400]))) (Q (.tup [.agg [vi 0, vi 0, vi 0], I 400]))
def sGet : Spec := fun ds Q => match ds with | [.agg [.s 0 3 R0 p0, .s 0 3 R1 p1, .s 0 3 R2 p2, .s 0 3 R3 p3], .c (.v (.int .i64 lv)), .c (.v (.int .i64 num))] => cond (okA R0 R1 R2 R3) (gotA (toZ R0) (toZ R1) (toZ R2) (toZ R3) lv num Q) False | _ => False
def okC (R : List (List D)) : Bool := allV R && decide (R.length ≤ 5864062014635)
def okC4 (R0 R1 R2 R3 : List (List D)) : Bool := okC R0 && (okC R1 && (okC R2 && okC R3))
theorem Zf8 {R0 R1 R2 R3 : List (List D)} (h : okC4 R0 R1 R2 R3 = true) : (allV R0 = true ∧ R0.length ≤ 5864062014635) ∧ (allV R1 = true ∧ R1.length ≤ 5864062014635) ∧ (allV R2 = true ∧ R2.length ≤ 5864062014635) ∧ (allV R3 = true ∧ R3.length ≤ 5864062014635) := by
  simpa [okC4, okC, Bool.and_eq_true] using h
def ZbR : Spec := fun ds Q => match ds with | [.agg [.s 0 3 R0 p0, .s 0 3 R1 p1, .s 0 3 R2 p2, .s 0 3 R3 p3]] => cond (okC4 R0 R1 R2 R3) (Q (dO R0 R1 R2 R3)) False | _ => False
theorem ZtN (R0 p0 R1 p1 R2 p2 R3 p3 : List (List D)) (K : DV → Prop) : (ask Tryz.prog [(148, Zeg)] Tryz.f93 [dA R0 p0 R1 p1 R2 p2 R3 p3] K) = (bif allV R0 && decide (List.length R0 ≤ 5864062014635) then bif allV R1 && decide (List.length R1 ≤ 5864062014635) then bif allV R2 && decide (List.length R2 ≤ 5864062014635) then bif allV R3 && decide (List.length R3 ≤ 5864062014635) then bif decide (List.length R0 ≤ List.length (R0 ++ [])) && List.all (R0 ++ []) fun r => List.all r D.keeps then bif decide (List.length R1 ≤ List.length (R1 ++ [])) && List.all (R1 ++ []) fun r => List.all r D.keeps then bif decide (List.length R2 ≤ List.length (R2 ++ [])) && List.all (R2 ++ []) fun r => List.all r D.keeps then bif decide (List.length R3 ≤ List.length (R3 ++ [])) && List.all (R3 ++ []) fun r => List.all r D.keeps then K (DV.agg [D.s (1) (3) (List.take (List.length R0) (R0 ++ [])) (List.take (List.length R0 + 0 - List.length R0) (List.drop (List.length R0) (R0 ++ []))), D.s (1) (3) (List.take (List.length R1) (R1 ++ [])) (List.take (List.length R1 + 0 - List.length R1) (List.drop (List.length R1) (R1 ++ []))), D.s (1) (3) (List.take (List.length R2) (R2 ++ [])) (List.take (List.length R2 + 0 - List.length R2) (List.drop (List.length R2) (R2 ++ []))), D.s (1) (3) (List.take (List.length R3) (R3 ++ [])) (List.take (List.length R3 + 0 - List.length R3) (List.drop (List.length R3) (R3 ++ [])))]) else False else False else False else False else False else False else False else False) := by kernel_rfl
theorem Zu8 (R0 p0 R1 p1 R2 p2 R3 p3 : List (List D)) (K : DV → Prop) : (ask Tryz.prog [] Tryz.f97 [dA R0 p0 R1 p1 R2 p2 R3 p3] K) = (bif allV R0 then bif true && (decide ((0 + List.length R0) * 24 ≤ 140737488355328) && decide (0 + List.length R0 ≤ 9223372036854775807)) then bif allV R1 then bif true && (decide ((0 + List.length R1) * 24 ≤ 140737488355328) && decide (0 + List.length R1 ≤ 9223372036854775807)) then bif allV R2 then bif true && (decide ((0 + List.length R2) * 24 ≤ 140737488355328) && decide (0 + List.length R2 ≤ 9223372036854775807)) then bif allV R3 then bif true && (decide ((0 + List.length R3) * 24 ≤ 140737488355328) && decide (0 + List.length R3 ≤ 9223372036854775807)) then bif decide (0 + List.length R0 ≤ List.length ([] ++ R0)) && List.all ([] ++ R0) fun r => List.all r D.keeps then bif decide (0 + List.length R1 ≤ List.length ([] ++ R1)) && List.all ([] ++ R1) fun r => List.all r D.keeps then bif decide (0 + List.length R2 ≤ List.length ([] ++ R2)) && List.all ([] ++ R2) fun r => List.all r D.keeps then bif decide (0 + List.length R3 ≤ List.length ([] ++ R3)) && List.all ([] ++ R3) fun r => List.all r D.keeps then K (DV.agg [D.s (1) (3) (List.take (0 + List.length R0) ([] ++ R0)) (List.take (0 + List.length R0 - (0 + List.length R0)) (List.drop (0 + List.length R0) ([] ++ R0))), D.s (1) (3) (List.take (0 + List.length R1) ([] ++ R1)) (List.take (0 + List.length R1 - (0 + List.length R1)) (List.drop (0 + List.length R1) ([] ++ R1))), D.s (1) (3) (List.take (0 + List.length R2) ([] ++ R2)) (List.take (0 + List.length R2 - (0 + List.length R2)) (List.drop (0 + List.length R2) ([] ++ R2))), D.s (1) (3) (List.take (0 + List.length R3) ([] ++ R3)) (List.take (0 + List.length R3 - (0 + List.length R3)) (List.drop (0 + List.length R3) ([] ++ R3)))]) else False else False else False else False else False else False else False else False else False else False else False else False) := by kernel_rfl
theorem Zvi (R0 p0 R1 p1 R2 p2 R3 p3 : List (List D)) (K : DV → Prop) : (ask Tryz.prog [] Tryz.f46 [dA R0 p0 R1 p1 R2 p2 R3 p3] K) = (bif allV R0 then bif true && (decide ((0 + List.length R0) * 24 ≤ 140737488355328) && decide (0 + List.length R0 ≤ 9223372036854775807)) then bif allV R1 then bif true && (decide ((0 + List.length R1) * 24 ≤ 140737488355328) && decide (0 + List.length R1 ≤ 9223372036854775807)) then bif allV R2 then bif true && (decide ((0 + List.length R2) * 24 ≤ 140737488355328) && decide (0 + List.length R2 ≤ 9223372036854775807)) then bif allV R3 then bif true && (decide ((0 + List.length R3) * 24 ≤ 140737488355328) && decide (0 + List.length R3 ≤ 9223372036854775807)) then bif decide (0 + List.length R0 ≤ List.length ([] ++ R0)) && List.all ([] ++ R0) fun r => List.all r D.keeps then bif decide (0 + List.length R1 ≤ List.length ([] ++ R1)) && List.all ([] ++ R1) fun r => List.all r D.keeps then bif decide (0 + List.length R2 ≤ List.length ([] ++ R2)) && List.all ([] ++ R2) fun r => List.all r D.keeps then bif decide (0 + List.length R3 ≤ List.length ([] ++ R3)) && List.all ([] ++ R3) fun r => List.all r D.keeps then K (DV.agg [D.s (1) (3) (List.take (0 + List.length R0) ([] ++ R0)) (List.take (0 + List.length R0 - (0 + List.length R0)) (List.drop (0 + List.length R0) ([] ++ R0))), D.s (1) (3) (List.take (0 + List.length R1) ([] ++ R1)) (List.take (0 + List.length R1 - (0 + List.length R1)) (List.drop (0 + List.length R1) ([] ++ R1))), D.s (1) (3) (List.take (0 + List.length R2) ([] ++ R2)) (List.take (0 + List.length R2 - (0 + List.length R2)) (List.drop (0 + List.length R2) ([] ++ R2))), D.s (1) (3) (List.take (0 + List.length R3) ([] ++ R3)) (List.take (0 + List.length R3 - (0 + List.length R3)) (List.drop (0 + List.length R3) ([] ++ R3)))]) else False else False else False else False else False else False else False else False else False else False else False else False) := by kernel_rfl
theorem Zqo {R0 R1 R2 R3 : List (List D)} (h0 : allV R0 = true) (h1 : allV R1 = true) (h2 : allV R2 = true) (h3 : allV R3 = true) : (dO R0 R1 R2 R3).pureOwn = true := by
  simp [DV.pureOwn, DV.pureOwn.go, DV.pure1, D.pureOwn, ownL, ZaE h0, ZaE h1, ZaE h2, ZaE h3, Zdt]
theorem ZjP : Zad Tryz.prog 93 ZbR := o_of Tryz.func93 (by kernel_rfl) rfl fun ds Q h => by
  unfold ZbR at h; split at h
  · rename_i R0 p0 R1 p1 R2 p2 R3 p3
    obtain ⟨h1, h2⟩ := Zag h
    obtain ⟨⟨a0, l0⟩, ⟨a1, l1⟩, ⟨a2, l2⟩, ⟨a3, l3⟩⟩ := Zf8 h1
    refine ⟨_, Zak (.cons Zk9 .nil) mixed Tryz.func93 rfl rfl rfl ?_, Zqo a0 a1 a2 a3, rfl, h2⟩
    rw [ZtN]
    have g0 : R0.length * 24 ≤ 140737488355328 := by omega
    have g1 : R1.length * 24 ≤ 140737488355328 := by omega
    have g2 : R2.length * 24 ≤ 140737488355328 := by omega
    have g3 : R3.length * 24 ≤ 140737488355328 := by omega
    have k0 : R0.length ≤ 9223372036854775807 := by omega
    have k1 : R1.length ≤ 9223372036854775807 := by omega
    have k2 : R2.length ≤ 9223372036854775807 := by omega
    have k3 : R3.length ≤ 9223372036854775807 := by omega
    simp only [a0, a1, a2, a3, l0, l1, l2, l3, g0, g1, g2, g3, k0, k1, k2, k3, Zao a0, Zao a1, Zao a2, Zao a3, Nat.zero_add, Nat.add_zero, List.nil_append, List.append_nil, decide_true, Bool.and_self, Bool.true_and, cond_true, Nat.le_refl, List.take_length, List.drop_length, Nat.sub_self, List.take_nil, List.take_zero]
  · exact h.elim
theorem ZkU : Zad Tryz.prog 97 ZbR := o_of Tryz.func97 (by kernel_rfl) rfl fun ds Q h => by
  unfold ZbR at h; split at h
  · rename_i R0 p0 R1 p1 R2 p2 R3 p3
    obtain ⟨h1, h2⟩ := Zag h
    obtain ⟨⟨a0, l0⟩, ⟨a1, l1⟩, ⟨a2, l2⟩, ⟨a3, l3⟩⟩ := Zf8 h1
    refine ⟨_, Zak (.nil) mixed Tryz.func97 rfl rfl rfl ?_, Zqo a0 a1 a2 a3, rfl, h2⟩
    rw [Zu8]
    have g0 : R0.length * 24 ≤ 140737488355328 := by omega
    have g1 : R1.length * 24 ≤ 140737488355328 := by omega
    have g2 : R2.length * 24 ≤ 140737488355328 := by omega
    have g3 : R3.length * 24 ≤ 140737488355328 := by omega
    have k0 : R0.length ≤ 9223372036854775807 := by omega
    have k1 : R1.length ≤ 9223372036854775807 := by omega
    have k2 : R2.length ≤ 9223372036854775807 := by omega
    have k3 : R3.length ≤ 9223372036854775807 := by omega
    simp only [a0, a1, a2, a3, l0, l1, l2, l3, g0, g1, g2, g3, k0, k1, k2, k3, Zao a0, Zao a1, Zao a2, Zao a3, Nat.zero_add, Nat.add_zero, List.nil_append, List.append_nil, decide_true, Bool.and_self, Bool.true_and, cond_true, Nat.le_refl, List.take_length, List.drop_length, Nat.sub_self, List.take_nil, List.take_zero]
  · exact h.elim
theorem ZrR : Zad Tryz.prog 46 ZbR := o_of Tryz.func46 (by kernel_rfl) rfl fun ds Q h => by
  unfold ZbR at h; split at h
  · rename_i R0 p0 R1 p1 R2 p2 R3 p3
    obtain ⟨h1, h2⟩ := Zag h
    obtain ⟨⟨a0, l0⟩, ⟨a1, l1⟩, ⟨a2, l2⟩, ⟨a3, l3⟩⟩ := Zf8 h1
    refine ⟨_, Zak (.nil) mixed Tryz.func46 rfl rfl rfl ?_, Zqo a0 a1 a2 a3, rfl, h2⟩
    rw [Zvi]
    have g0 : R0.length * 24 ≤ 140737488355328 := by omega
    have g1 : R1.length * 24 ≤ 140737488355328 := by omega
    have g2 : R2.length * 24 ≤ 140737488355328 := by omega
    have g3 : R3.length * 24 ≤ 140737488355328 := by omega
    have k0 : R0.length ≤ 9223372036854775807 := by omega
    have k1 : R1.length ≤ 9223372036854775807 := by omega
    have k2 : R2.length ≤ 9223372036854775807 := by omega
    have k3 : R3.length ≤ 9223372036854775807 := by omega
    simp only [a0, a1, a2, a3, l0, l1, l2, l3, g0, g1, g2, g3, k0, k1, k2, k3, Zao a0, Zao a1, Zao a2, Zao a3, Nat.zero_add, Nat.add_zero, List.nil_append, List.append_nil, decide_true, Bool.and_self, Bool.true_and, cond_true, Nat.le_refl, List.take_length, List.drop_length, Nat.sub_self, List.take_nil, List.take_zero]
  · exact h.elim
def w3 (a b c : Int) : List D := [vi a, vi b, vi c]
theorem ZmM {R0 R1 R2 R3 : List (List D)} (h0 : okZ 3 R0 = true) (h1 : okZ 3 R1 = true) (h2 : okZ 3 R2 = true) (h3 : okZ 3 R3 = true) (n : Int) : (DV.tup [dO R0 R1 R2 R3, I n]).pureOwn = true := by
  have := Zqo (Zab h0) (Zab h1) (Zab h2) (Zab h3)
  simp [DV.pureOwn, DV.pureOwn.go, DV.pure1, D.pureOwn, ownL, ZaE (Zab h0), ZaE (Zab h1), ZaE (Zab h2), ZaE (Zab h3), Zdt]
end

section
open Go Go.Proofs
def mL (l : List (List Int)) : List (List Int) := l.map fun r => [r.getD 0 0, 0, 0]
def mW (R : List (List D)) : List (List D) := mZ (mL (toZ R))
abbrev dV (R0 p0 R1 p1 R2 p2 R3 p3 : List (List D)) : DV := .agg [.s 0 1 R0 p0, .s 0 1 R1 p1, .s 0 1 R2 p2, .s 0 1 R3 p3]
def boxL (y : X) (k j : Nat) : Nat := match (rowOf y k).getD j .non with | .rs _ _ _ _ len _ => len | _ => 0
def stP0 (R0 p0 R1 p1 R2 p2 R3 p3 : List (List D)) (i : Int) : X := ⟨mkT 36 [(2, .c (.rp 3 0 4 0 0)), (3, ai 0), (4, .c (.rp 5 0 4 0 0)), (5, ai 0), (9, .agg [.d (.s 0 1 R0 p0), .d (.s 0 1 R1 p1), .d (.s 0 1 R2 p2), .d (.s 0 1 R3 p3)]), (10, ai 0), (14, aS 1 R0 p0), (15, ai R0.length), (16, ai i)], [(3, .bx 0 4 [.d nilD, .d nilD, .d nilD, .d nilD]), (5, .bx 0 4 [.d nilD, .d nilD, .d nilD, .d nilD])], [], []⟩
def stN0 (R0 p0 R1 p1 R2 p2 R3 p3 : List (List D)) (W : List (List D)) (m : Nat) (i : Int) : X := ⟨mkT 36 [(2, .c (.rp 3 0 4 0 0)), (3, ai 0), (4, .c (.rp 5 0 4 0 0)), (5, ai 0), (9, .agg [.d (.s 0 1 R0 p0), .d (.s 0 1 R1 p1), .d (.s 0 1 R2 p2), .d (.s 0 1 R3 p3)]), (10, ai 0), (14, aS 1 R0 p0), (15, ai R0.length), (16, ai i)], [(3, .bx 0 4 [.d nilD, .d nilD, .d nilD, .d nilD]), (5, .bx 0 4 [.rs 2000000 0 3 0 m m, .d nilD, .d nilD, .d nilD]), (2000000, .sl 0 3 W)], [], []⟩
def vN0 (R0 p0 R1 p1 R2 p2 R3 p3 : List (List D)) (y : X) : X := stN0 R0 p0 R1 p1 R2 p2 R3 p3 (Zfn y 2000000) (boxL y 5 0) (ZbY y 16)
theorem eN0r (R0 p0 R1 p1 R2 p2 R3 p3 : List (List D)) (W : List (List D)) (m : Nat) (i : Int) (N : X → Prop) (E : Exit → X → Prop) : (ZaA band bor Tryz.prog [] [] Tryz.f48 1 [2, 3, 4, 5, 9, 10, 14, 15, 16] [3, 5, 2000000] (vN0 R0 p0 R1 p1 R2 p2 R3 p3) (vN0 R0 p0 R1 p1 R2 p2 R3 p3) N E (stN0 R0 p0 R1 p1 R2 p2 R3 p3 W m i)) = (bif decide (i < @Nat.cast Int _ (List.length R0)) then bif decide (0 ≤ i) && decide (i < @Nat.cast Int _ (List.length R0)) then bif isJ [IntKind.i64] (List.drop (0) (List.getD R0 (Int.toNat i) [])) then bif decide (m ≤ List.length W) && (decide ((m + 1) * 24 ≤ 140737488355328) && decide (m + 1 ≤ 9223372036854775807)) then stN0 R0 p0 R1 p1 R2 p2 R3 p3 (List.take m W ++ [[D.v (Value.int IntKind.i64 (hdJ (List.drop (0) (List.getD R0 (Int.toNat i) [])))), D.v (Value.int IntKind.i64 (0)), D.v (Value.int IntKind.i64 (0))]]) (Nat.succ m) (IntKind.wrap IntKind.i64 (i + 1)) = stN0 R0 p0 R1 p1 R2 p2 R3 p3 (List.take m W ++ [[D.v (Value.int IntKind.i64 (hdJ (List.drop (0) (List.getD R0 (Int.toNat i) [])))), D.v (Value.int IntKind.i64 (0)), D.v (Value.int IntKind.i64 (0))]]) (Nat.succ m) (IntKind.wrap IntKind.i64 (i + 1)) ∧ N (stN0 R0 p0 R1 p1 R2 p2 R3 p3 (List.take m W ++ [[D.v (Value.int IntKind.i64 (hdJ (List.drop (0) (List.getD R0 (Int.toNat i) [])))), D.v (Value.int IntKind.i64 (0)), D.v (Value.int IntKind.i64 (0))]]) (Nat.succ m) (IntKind.wrap IntKind.i64 (i + 1))) else False else False else False else stN0 R0 p0 R1 p1 R2 p2 R3 p3 W m i = stN0 R0 p0 R1 p1 R2 p2 R3 p3 W m i ∧ E (Exit.exit (2)) (stN0 R0 p0 R1 p1 R2 p2 R3 p3 W m i)) := by kernel_rfl
def sN0 (R0 p0 R1 p1 R2 p2 R3 p3 : List (List D)) : LSum := fun Q x => x.only [2, 3, 4, 5, 9, 10, 14, 15, 16] [3, 5, 2000000] = stP0 R0 p0 R1 p1 R2 p2 R3 p3 0 ∧ Q (.exit 2) (stN0 R0 p0 R1 p1 R2 p2 R3 p3 (mW R0) R0.length R0.length)
def stQ0 (R0 p0 R1 p1 R2 p2 R3 p3 : List (List D)) (e i : Int) : X := ⟨mkT 47 [(1, .c (.rp 2 0 4 0 0)), (2, .c (.rp 3 0 4 0 0)), (3, ai e), (4, .c (.rp 5 0 4 0 0)), (5, ai 0), (6, ai i)], [(2, .bx 0 4 [.d (.s 0 1 R0 p0), .d (.s 0 1 R1 p1), .d (.s 0 1 R2 p2), .d (.s 0 1 R3 p3)]), (3, .bx 0 4 [.d nilD, .d nilD, .d nilD, .d nilD]), (5, .bx 0 4 [.d nilD, .d nilD, .d nilD, .d nilD])], [], []⟩
def stM0 (R0 p0 R1 p1 R2 p2 R3 p3 : List (List D)) (W : List (List D)) (m : Nat) (e i : Int) : X := ⟨mkT 47 [(1, .c (.rp 2 0 4 0 0)), (2, .c (.rp 3 0 4 0 0)), (3, ai e), (4, .c (.rp 5 0 4 0 0)), (5, ai 0), (6, ai i)], [(2, .bx 0 4 [.d (.s 0 1 R0 p0), .d (.s 0 1 R1 p1), .d (.s 0 1 R2 p2), .d (.s 0 1 R3 p3)]), (3, .bx 0 4 [.d nilD, .d nilD, .d nilD, .d nilD]), (5, .bx 0 4 [.rs 2000000 0 3 0 m m, .d nilD, .d nilD, .d nilD]), (2000000, .sl 0 3 W)], [], []⟩
def vM0 (R0 p0 R1 p1 R2 p2 R3 p3 : List (List D)) (y : X) : X := stM0 R0 p0 R1 p1 R2 p2 R3 p3 (Zfn y 2000000) (boxL y 5 0) (ZbY y 3) (ZbY y 6)
theorem eM0r (R0 p0 R1 p1 R2 p2 R3 p3 : List (List D)) (W : List (List D)) (m : Nat) (e i : Int) (N : X → Prop) (E : Exit → X → Prop) : (ZaA band bor Tryz.prog [(91, sB val8)] [] Tryz.f50 1 [1, 2, 3, 4, 5, 6] [2, 3, 5, 2000000] (vM0 R0 p0 R1 p1 R2 p2 R3 p3) (vM0 R0 p0 R1 p1 R2 p2 R3 p3) N E (stM0 R0 p0 R1 p1 R2 p2 R3 p3 W m e i)) = (bif decide (i < @Nat.cast Int _ (List.length R0)) then bif decide (i ≥ 4) then stM0 R0 p0 R1 p1 R2 p2 R3 p3 W m (400) i = stM0 R0 p0 R1 p1 R2 p2 R3 p3 W m (400) i ∧ E Exit.ret (stM0 R0 p0 R1 p1 R2 p2 R3 p3 W m (400) i) else bif decide (0 ≤ i) && decide (i < @Nat.cast Int _ (List.length R0)) then bif isJ [IntKind.i64] (List.drop (0) (List.getD R0 (Int.toNat i) [])) then bif !(decide (hdJ (List.drop (0) (List.getD R0 (Int.toNat i) [])) ≥ 0) && decide (hdJ (List.drop (0) (List.getD R0 (Int.toNat i) [])) ≤ 255)) then stM0 R0 p0 R1 p1 R2 p2 R3 p3 W m (400) i = stM0 R0 p0 R1 p1 R2 p2 R3 p3 W m (400) i ∧ E Exit.ret (stM0 R0 p0 R1 p1 R2 p2 R3 p3 W m (400) i) else bif decide (0 ≤ i) && decide (i < @Nat.cast Int _ (List.length R0)) then bif isJ [IntKind.i64] (List.drop (0) (List.getD R0 (Int.toNat i) [])) then bif decide (m ≤ List.length W) && (decide ((m + 1) * 24 ≤ 140737488355328) && decide (m + 1 ≤ 9223372036854775807)) then stM0 R0 p0 R1 p1 R2 p2 R3 p3 (List.take m W ++ [[D.v (Value.int IntKind.i64 (hdJ (List.drop (0) (List.getD R0 (Int.toNat i) [])))), D.v (Value.int IntKind.i64 (0)), D.v (Value.int IntKind.i64 (0))]]) (Nat.succ m) e (IntKind.wrap IntKind.i64 (i + 1)) = stM0 R0 p0 R1 p1 R2 p2 R3 p3 (List.take m W ++ [[D.v (Value.int IntKind.i64 (hdJ (List.drop (0) (List.getD R0 (Int.toNat i) [])))), D.v (Value.int IntKind.i64 (0)), D.v (Value.int IntKind.i64 (0))]]) (Nat.succ m) e (IntKind.wrap IntKind.i64 (i + 1)) ∧ N (stM0 R0 p0 R1 p1 R2 p2 R3 p3 (List.take m W ++ [[D.v (Value.int IntKind.i64 (hdJ (List.drop (0) (List.getD R0 (Int.toNat i) [])))), D.v (Value.int IntKind.i64 (0)), D.v (Value.int IntKind.i64 (0))]]) (Nat.succ m) e (IntKind.wrap IntKind.i64 (i + 1))) else False else False else False else False else False else stM0 R0 p0 R1 p1 R2 p2 R3 p3 W m e i = stM0 R0 p0 R1 p1 R2 p2 R3 p3 W m e i ∧ E (Exit.exit (2)) (stM0 R0 p0 R1 p1 R2 p2 R3 p3 W m e i)) := by kernel_rfl
def sM0 (R0 p0 R1 p1 R2 p2 R3 p3 : List (List D)) : LSum := fun Q x => x.only [1, 2, 3, 4, 5, 6] [2, 3, 5, 2000000] = stQ0 R0 p0 R1 p1 R2 p2 R3 p3 0 0 ∧ (ZaM (toZ (mW R0)) = false → ∀ (W : List (List D)) (m : Nat) (i : Int), Q .ret (stM0 R0 p0 R1 p1 R2 p2 R3 p3 W m 400 i)) ∧ (ZaM (toZ (mW R0)) = true → Q (.exit 2) (stM0 R0 p0 R1 p1 R2 p2 R3 p3 (mW R0) R0.length 0 R0.length))
def stP1 (R0 p0 R1 p1 R2 p2 R3 p3 : List (List D)) (i : Int) : X := ⟨mkT 36 [(2, .c (.rp 3 0 4 0 0)), (3, ai 0), (4, .c (.rp 5 0 4 0 0)), (5, ai 1), (9, .agg [.d (.s 0 1 R0 p0), .d (.s 0 1 R1 p1), .d (.s 0 1 R2 p2), .d (.s 0 1 R3 p3)]), (10, ai 1), (14, aS 1 R1 p1), (15, ai R1.length), (16, ai i)], [(3, .bx 0 4 [.d nilD, .d nilD, .d nilD, .d nilD]), (5, .bx 0 4 [.rs 2000000 0 3 0 R0.length R0.length, .d nilD, .d nilD, .d nilD]), (2000000, .sl 0 3 (mW R0))], [], []⟩
def stN1 (R0 p0 R1 p1 R2 p2 R3 p3 : List (List D)) (W : List (List D)) (m : Nat) (i : Int) : X := ⟨mkT 36 [(2, .c (.rp 3 0 4 0 0)), (3, ai 0), (4, .c (.rp 5 0 4 0 0)), (5, ai 1), (9, .agg [.d (.s 0 1 R0 p0), .d (.s 0 1 R1 p1), .d (.s 0 1 R2 p2), .d (.s 0 1 R3 p3)]), (10, ai 1), (14, aS 1 R1 p1), (15, ai R1.length), (16, ai i)], [(3, .bx 0 4 [.d nilD, .d nilD, .d nilD, .d nilD]), (5, .bx 0 4 [.rs 2000000 0 3 0 R0.length R0.length, .rs 2000001 0 3 0 m m, .d nilD, .d nilD]), (2000000, .sl 0 3 (mW R0)), (2000001, .sl 0 3 W)], [], []⟩
def vN1 (R0 p0 R1 p1 R2 p2 R3 p3 : List (List D)) (y : X) : X := stN1 R0 p0 R1 p1 R2 p2 R3 p3 (Zfn y 2000001) (boxL y 5 1) (ZbY y 16)
theorem eN1r (R0 p0 R1 p1 R2 p2 R3 p3 : List (List D)) (W : List (List D)) (m : Nat) (i : Int) (N : X → Prop) (E : Exit → X → Prop) : (ZaA band bor Tryz.prog [] [] Tryz.f48 1 [2, 3, 4, 5, 9, 10, 14, 15, 16] [3, 5, 2000000, 2000001] (vN1 R0 p0 R1 p1 R2 p2 R3 p3) (vN1 R0 p0 R1 p1 R2 p2 R3 p3) N E (stN1 R0 p0 R1 p1 R2 p2 R3 p3 W m i)) = (bif decide (i < @Nat.cast Int _ (List.length R1)) then bif decide (0 ≤ i) && decide (i < @Nat.cast Int _ (List.length R1)) then bif isJ [IntKind.i64] (List.drop (0) (List.getD R1 (Int.toNat i) [])) then bif decide (m ≤ List.length W) && (decide ((m + 1) * 24 ≤ 140737488355328) && decide (m + 1 ≤ 9223372036854775807)) then stN1 R0 p0 R1 p1 R2 p2 R3 p3 (List.take m W ++ [[D.v (Value.int IntKind.i64 (hdJ (List.drop (0) (List.getD R1 (Int.toNat i) [])))), D.v (Value.int IntKind.i64 (0)), D.v (Value.int IntKind.i64 (0))]]) (Nat.succ m) (IntKind.wrap IntKind.i64 (i + 1)) = stN1 R0 p0 R1 p1 R2 p2 R3 p3 (List.take m W ++ [[D.v (Value.int IntKind.i64 (hdJ (List.drop (0) (List.getD R1 (Int.toNat i) [])))), D.v (Value.int IntKind.i64 (0)), D.v (Value.int IntKind.i64 (0))]]) (Nat.succ m) (IntKind.wrap IntKind.i64 (i + 1)) ∧ N (stN1 R0 p0 R1 p1 R2 p2 R3 p3 (List.take m W ++ [[D.v (Value.int IntKind.i64 (hdJ (List.drop (0) (List.getD R1 (Int.toNat i) [])))), D.v (Value.int IntKind.i64 (0)), D.v (Value.int IntKind.i64 (0))]]) (Nat.succ m) (IntKind.wrap IntKind.i64 (i + 1))) else False else False else False else stN1 R0 p0 R1 p1 R2 p2 R3 p3 W m i = stN1 R0 p0 R1 p1 R2 p2 R3 p3 W m i ∧ E (Exit.exit (2)) (stN1 R0 p0 R1 p1 R2 p2 R3 p3 W m i)) := by kernel_rfl
def sN1 (R0 p0 R1 p1 R2 p2 R3 p3 : List (List D)) : LSum := fun Q x => x.only [2, 3, 4, 5, 9, 10, 14, 15, 16] [3, 5, 2000000, 2000001] = stP1 R0 p0 R1 p1 R2 p2 R3 p3 0 ∧ Q (.exit 2) (stN1 R0 p0 R1 p1 R2 p2 R3 p3 (mW R1) R1.length R1.length)
def stQ1 (R0 p0 R1 p1 R2 p2 R3 p3 : List (List D)) (e i : Int) : X := ⟨mkT 47 [(1, .c (.rp 2 0 4 0 0)), (2, .c (.rp 3 0 4 0 0)), (3, ai e), (4, .c (.rp 5 0 4 0 0)), (5, ai 1), (6, ai i)], [(2, .bx 0 4 [.d (.s 0 1 R0 p0), .d (.s 0 1 R1 p1), .d (.s 0 1 R2 p2), .d (.s 0 1 R3 p3)]), (3, .bx 0 4 [.d nilD, .d nilD, .d nilD, .d nilD]), (5, .bx 0 4 [.rs 2000000 0 3 0 R0.length R0.length, .d nilD, .d nilD, .d nilD]), (2000000, .sl 0 3 (mW R0))], [], []⟩
def stM1 (R0 p0 R1 p1 R2 p2 R3 p3 : List (List D)) (W : List (List D)) (m : Nat) (e i : Int) : X := ⟨mkT 47 [(1, .c (.rp 2 0 4 0 0)), (2, .c (.rp 3 0 4 0 0)), (3, ai e), (4, .c (.rp 5 0 4 0 0)), (5, ai 1), (6, ai i)], [(2, .bx 0 4 [.d (.s 0 1 R0 p0), .d (.s 0 1 R1 p1), .d (.s 0 1 R2 p2), .d (.s 0 1 R3 p3)]), (3, .bx 0 4 [.d nilD, .d nilD, .d nilD, .d nilD]), (5, .bx 0 4 [.rs 2000000 0 3 0 R0.length R0.length, .rs 2000001 0 3 0 m m, .d nilD, .d nilD]), (2000000, .sl 0 3 (mW R0)), (2000001, .sl 0 3 W)], [], []⟩
def vM1 (R0 p0 R1 p1 R2 p2 R3 p3 : List (List D)) (y : X) : X := stM1 R0 p0 R1 p1 R2 p2 R3 p3 (Zfn y 2000001) (boxL y 5 1) (ZbY y 3) (ZbY y 6)
theorem eM1r (R0 p0 R1 p1 R2 p2 R3 p3 : List (List D)) (W : List (List D)) (m : Nat) (e i : Int) (N : X → Prop) (E : Exit → X → Prop) : (ZaA band bor Tryz.prog [(91, sB val8)] [] Tryz.f50 1 [1, 2, 3, 4, 5, 6] [2, 3, 5, 2000000, 2000001] (vM1 R0 p0 R1 p1 R2 p2 R3 p3) (vM1 R0 p0 R1 p1 R2 p2 R3 p3) N E (stM1 R0 p0 R1 p1 R2 p2 R3 p3 W m e i)) = (bif decide (i < @Nat.cast Int _ (List.length R1)) then bif decide (i ≥ 4) then stM1 R0 p0 R1 p1 R2 p2 R3 p3 W m (400) i = stM1 R0 p0 R1 p1 R2 p2 R3 p3 W m (400) i ∧ E Exit.ret (stM1 R0 p0 R1 p1 R2 p2 R3 p3 W m (400) i) else bif decide (0 ≤ i) && decide (i < @Nat.cast Int _ (List.length R1)) then bif isJ [IntKind.i64] (List.drop (0) (List.getD R1 (Int.toNat i) [])) then bif !(decide (hdJ (List.drop (0) (List.getD R1 (Int.toNat i) [])) ≥ 0) && decide (hdJ (List.drop (0) (List.getD R1 (Int.toNat i) [])) ≤ 255)) then stM1 R0 p0 R1 p1 R2 p2 R3 p3 W m (400) i = stM1 R0 p0 R1 p1 R2 p2 R3 p3 W m (400) i ∧ E Exit.ret (stM1 R0 p0 R1 p1 R2 p2 R3 p3 W m (400) i) else bif decide (0 ≤ i) && decide (i < @Nat.cast Int _ (List.length R1)) then bif isJ [IntKind.i64] (List.drop (0) (List.getD R1 (Int.toNat i) [])) then bif decide (m ≤ List.length W) && (decide ((m + 1) * 24 ≤ 140737488355328) && decide (m + 1 ≤ 9223372036854775807)) then stM1 R0 p0 R1 p1 R2 p2 R3 p3 (List.take m W ++ [[D.v (Value.int IntKind.i64 (hdJ (List.drop (0) (List.getD R1 (Int.toNat i) [])))), D.v (Value.int IntKind.i64 (0)), D.v (Value.int IntKind.i64 (0))]]) (Nat.succ m) e (IntKind.wrap IntKind.i64 (i + 1)) = stM1 R0 p0 R1 p1 R2 p2 R3 p3 (List.take m W ++ [[D.v (Value.int IntKind.i64 (hdJ (List.drop (0) (List.getD R1 (Int.toNat i) [])))), D.v (Value.int IntKind.i64 (0)), D.v (Value.int IntKind.i64 (0))]]) (Nat.succ m) e (IntKind.wrap IntKind.i64 (i + 1)) ∧ N (stM1 R0 p0 R1 p1 R2 p2 R3 p3 (List.take m W ++ [[D.v (Value.int IntKind.i64 (hdJ (List.drop (0) (List.getD R1 (Int.toNat i) [])))), D.v (Value.int IntKind.i64 (0)), D.v (Value.int IntKind.i64 (0))]]) (Nat.succ m) e (IntKind.wrap IntKind.i64 (i + 1))) else False else False else False else False else False else stM1 R0 p0 R1 p1 R2 p2 R3 p3 W m e i = stM1 R0 p0 R1 p1 R2 p2 R3 p3 W m e i ∧ E (Exit.exit (2)) (stM1 R0 p0 R1 p1 R2 p2 R3 p3 W m e i)) := by kernel_rfl
def sM1 (R0 p0 R1 p1 R2 p2 R3 p3 : List (List D)) : LSum := fun Q x => x.only [1, 2, 3, 4, 5, 6] [2, 3, 5, 2000000, 2000001] = stQ1 R0 p0 R1 p1 R2 p2 R3 p3 0 0 ∧ (ZaM (toZ (mW R1)) = false → ∀ (W : List (List D)) (m : Nat) (i : Int), Q .ret (stM1 R0 p0 R1 p1 R2 p2 R3 p3 W m 400 i)) ∧ (ZaM (toZ (mW R1)) = true → Q (.exit 2) (stM1 R0 p0 R1 p1 R2 p2 R3 p3 (mW R1) R1.length 0 R1.length))
def stP2 (R0 p0 R1 p1 R2 p2 R3 p3 : List (List D)) (i : Int) : X := ⟨mkT 36 [(2, .c (.rp 3 0 4 0 0)), (3, ai 0), (4, .c (.rp 5 0 4 0 0)), (5, ai 2), (9, .agg [.d (.s 0 1 R0 p0), .d (.s 0 1 R1 p1), .d (.s 0 1 R2 p2), .d (.s 0 1 R3 p3)]), (10, ai 2), (14, aS 1 R2 p2), (15, ai R2.length), (16, ai i)], [(3, .bx 0 4 [.d nilD, .d nilD, .d nilD, .d nilD]), (5, .bx 0 4 [.rs 2000000 0 3 0 R0.length R0.length, .rs 2000001 0 3 0 R1.length R1.length, .d nilD, .d nilD]), (2000000, .sl 0 3 (mW R0)), (2000001, .sl 0 3 (mW R1))], [], []⟩
def stN2 (R0 p0 R1 p1 R2 p2 R3 p3 : List (List D)) (W : List (List D)) (m : Nat) (i : Int) : X := ⟨mkT 36 [(2, .c (.rp 3 0 4 0 0)), (3, ai 0), (4, .c (.rp 5 0 4 0 0)), (5, ai 2), (9, .agg [.d (.s 0 1 R0 p0), .d (.s 0 1 R1 p1), .d (.s 0 1 R2 p2), .d (.s 0 1 R3 p3)]), (10, ai 2), (14, aS 1 R2 p2), (15, ai R2.length), (16, ai i)], [(3, .bx 0 4 [.d nilD, .d nilD, .d nilD, .d nilD]), (5, .bx 0 4 [.rs 2000000 0 3 0 R0.length R0.length, .rs 2000001 0 3 0 R1.length R1.length, .rs 2000002 0 3 0 m m, .d nilD]), (2000000, .sl 0 3 (mW R0)), (2000001, .sl 0 3 (mW R1)), (2000002, .sl 0 3 W)], [], []⟩
def vN2 (R0 p0 R1 p1 R2 p2 R3 p3 : List (List D)) (y : X) : X := stN2 R0 p0 R1 p1 R2 p2 R3 p3 (Zfn y 2000002) (boxL y 5 2) (ZbY y 16)
theorem eN2r (R0 p0 R1 p1 R2 p2 R3 p3 : List (List D)) (W : List (List D)) (m : Nat) (i : Int) (N : X → Prop) (E : Exit → X → Prop) : (ZaA band bor Tryz.prog [] [] Tryz.f48 1 [2, 3, 4, 5, 9, 10, 14, 15, 16] [3, 5, 2000000, 2000001, 2000002] (vN2 R0 p0 R1 p1 R2 p2 R3 p3) (vN2 R0 p0 R1 p1 R2 p2 R3 p3) N E (stN2 R0 p0 R1 p1 R2 p2 R3 p3 W m i)) = (bif decide (i < @Nat.cast Int _ (List.length R2)) then bif decide (0 ≤ i) && decide (i < @Nat.cast Int _ (List.length R2)) then bif isJ [IntKind.i64] (List.drop (0) (List.getD R2 (Int.toNat i) [])) then bif decide (m ≤ List.length W) && (decide ((m + 1) * 24 ≤ 140737488355328) && decide (m + 1 ≤ 9223372036854775807)) then stN2 R0 p0 R1 p1 R2 p2 R3 p3 (List.take m W ++ [[D.v (Value.int IntKind.i64 (hdJ (List.drop (0) (List.getD R2 (Int.toNat i) [])))), D.v (Value.int IntKind.i64 (0)), D.v (Value.int IntKind.i64 (0))]]) (Nat.succ m) (IntKind.wrap IntKind.i64 (i + 1)) = stN2 R0 p0 R1 p1 R2 p2 R3 p3 (List.take m W ++ [[D.v (Value.int IntKind.i64 (hdJ (List.drop (0) (List.getD R2 (Int.toNat i) [])))), D.v (Value.int IntKind.i64 (0)), D.v (Value.int IntKind.i64 (0))]]) (Nat.succ m) (IntKind.wrap IntKind.i64 (i + 1)) ∧ N (stN2 R0 p0 R1 p1 R2 p2 R3 p3 (List.take m W ++ [[D.v (Value.int IntKind.i64 (hdJ (List.drop (0) (List.getD R2 (Int.toNat i) [])))), D.v (Value.int IntKind.i64 (0)), D.v (Value.int IntKind.i64 (0))]]) (Nat.succ m) (IntKind.wrap IntKind.i64 (i + 1))) else False else False else False else stN2 R0 p0 R1 p1 R2 p2 R3 p3 W m i = stN2 R0 p0 R1 p1 R2 p2 R3 p3 W m i ∧ E (Exit.exit (2)) (stN2 R0 p0 R1 p1 R2 p2 R3 p3 W m i)) := by kernel_rfl
def sN2 (R0 p0 R1 p1 R2 p2 R3 p3 : List (List D)) : LSum := fun Q x => x.only [2, 3, 4, 5, 9, 10, 14, 15, 16] [3, 5, 2000000, 2000001, 2000002] = stP2 R0 p0 R1 p1 R2 p2 R3 p3 0 ∧ Q (.exit 2) (stN2 R0 p0 R1 p1 R2 p2 R3 p3 (mW R2) R2.length R2.length)
def stQ2 (R0 p0 R1 p1 R2 p2 R3 p3 : List (List D)) (e i : Int) : X := ⟨mkT 47 [(1, .c (.rp 2 0 4 0 0)), (2, .c (.rp 3 0 4 0 0)), (3, ai e), (4, .c (.rp 5 0 4 0 0)), (5, ai 2), (6, ai i)], [(2, .bx 0 4 [.d (.s 0 1 R0 p0), .d (.s 0 1 R1 p1), .d (.s 0 1 R2 p2), .d (.s 0 1 R3 p3)]), (3, .bx 0 4 [.d nilD, .d nilD, .d nilD, .d nilD]), (5, .bx 0 4 [.rs 2000000 0 3 0 R0.length R0.length, .rs 2000001 0 3 0 R1.length R1.length, .d nilD, .d nilD]), (2000000, .sl 0 3 (mW R0)), (2000001, .sl 0 3 (mW R1))], [], []⟩
def stM2 (R0 p0 R1 p1 R2 p2 R3 p3 : List (List D)) (W : List (List D)) (m : Nat) (e i : Int) : X := ⟨mkT 47 [(1, .c (.rp 2 0 4 0 0)), (2, .c (.rp 3 0 4 0 0)), (3, ai e), (4, .c (.rp 5 0 4 0 0)), (5, ai 2), (6, ai i)], [(2, .bx 0 4 [.d (.s 0 1 R0 p0), .d (.s 0 1 R1 p1), .d (.s 0 1 R2 p2), .d (.s 0 1 R3 p3)]), (3, .bx 0 4 [.d nilD, .d nilD, .d nilD, .d nilD]), (5, .bx 0 4 [.rs 2000000 0 3 0 R0.length R0.length, .rs 2000001 0 3 0 R1.length R1.length, .rs 2000002 0 3 0 m m, .d nilD]), (2000000, .sl 0 3 (mW R0)), (2000001, .sl 0 3 (mW R1)), (2000002, .sl 0 3 W)], [], []⟩
def vM2 (R0 p0 R1 p1 R2 p2 R3 p3 : List (List D)) (y : X) : X := stM2 R0 p0 R1 p1 R2 p2 R3 p3 (Zfn y 2000002) (boxL y 5 2) (ZbY y 3) (ZbY y 6)
theorem eM2r (R0 p0 R1 p1 R2 p2 R3 p3 : List (List D)) (W : List (List D)) (m : Nat) (e i : Int) (N : X → Prop) (E : Exit → X → Prop) : (ZaA band bor Tryz.prog [(91, sB val8)] [] Tryz.f50 1 [1, 2, 3, 4, 5, 6] [2, 3, 5, 2000000, 2000001, 2000002] (vM2 R0 p0 R1 p1 R2 p2 R3 p3) (vM2 R0 p0 R1 p1 R2 p2 R3 p3) N E (stM2 R0 p0 R1 p1 R2 p2 R3 p3 W m e i)) = (bif decide (i < @Nat.cast Int _ (List.length R2)) then bif decide (i ≥ 4) then stM2 R0 p0 R1 p1 R2 p2 R3 p3 W m (400) i = stM2 R0 p0 R1 p1 R2 p2 R3 p3 W m (400) i ∧ E Exit.ret (stM2 R0 p0 R1 p1 R2 p2 R3 p3 W m (400) i) else bif decide (0 ≤ i) && decide (i < @Nat.cast Int _ (List.length R2)) then bif isJ [IntKind.i64] (List.drop (0) (List.getD R2 (Int.toNat i) [])) then bif !(decide (hdJ (List.drop (0) (List.getD R2 (Int.toNat i) [])) ≥ 0) && decide (hdJ (List.drop (0) (List.getD R2 (Int.toNat i) [])) ≤ 255)) then stM2 R0 p0 R1 p1 R2 p2 R3 p3 W m (400) i = stM2 R0 p0 R1 p1 R2 p2 R3 p3 W m (400) i ∧ E Exit.ret (stM2 R0 p0 R1 p1 R2 p2 R3 p3 W m (400) i) else bif decide (0 ≤ i) && decide (i < @Nat.cast Int _ (List.length R2)) then bif isJ [IntKind.i64] (List.drop (0) (List.getD R2 (Int.toNat i) [])) then bif decide (m ≤ List.length W) && (decide ((m + 1) * 24 ≤ 140737488355328) && decide (m + 1 ≤ 9223372036854775807)) then stM2 R0 p0 R1 p1 R2 p2 R3 p3 (List.take m W ++ [[D.v (Value.int IntKind.i64 (hdJ (List.drop (0) (List.getD R2 (Int.toNat i) [])))), D.v (Value.int IntKind.i64 (0)), D.v (Value.int IntKind.i64 (0))]]) (Nat.succ m) e (IntKind.wrap IntKind.i64 (i + 1)) = stM2 R0 p0 R1 p1 R2 p2 R3 p3 (List.take m W ++ [[D.v (Value.int IntKind.i64 (hdJ (List.drop (0) (List.getD R2 (Int.toNat i) [])))), D.v (Value.int IntKind.i64 (0)), D.v (Value.int IntKind.i64 (0))]]) (Nat.succ m) e (IntKind.wrap IntKind.i64 (i + 1)) ∧ N (stM2 R0 p0 R1 p1 R2 p2 R3 p3 (List.take m W ++ [[D.v (Value.int IntKind.i64 (hdJ (List.drop (0) (List.getD R2 (Int.toNat i) [])))), D.v (Value.int IntKind.i64 (0)), D.v (Value.int IntKind.i64 (0))]]) (Nat.succ m) e (IntKind.wrap IntKind.i64 (i + 1))) else False else False else False else False else False else stM2 R0 p0 R1 p1 R2 p2 R3 p3 W m e i = stM2 R0 p0 R1 p1 R2 p2 R3 p3 W m e i ∧ E (Exit.exit (2)) (stM2 R0 p0 R1 p1 R2 p2 R3 p3 W m e i)) := by kernel_rfl
def sM2 (R0 p0 R1 p1 R2 p2 R3 p3 : List (List D)) : LSum := fun Q x => x.only [1, 2, 3, 4, 5, 6] [2, 3, 5, 2000000, 2000001, 2000002] = stQ2 R0 p0 R1 p1 R2 p2 R3 p3 0 0 ∧ (ZaM (toZ (mW R2)) = false → ∀ (W : List (List D)) (m : Nat) (i : Int), Q .ret (stM2 R0 p0 R1 p1 R2 p2 R3 p3 W m 400 i)) ∧ (ZaM (toZ (mW R2)) = true → Q (.exit 2) (stM2 R0 p0 R1 p1 R2 p2 R3 p3 (mW R2) R2.length 0 R2.length))
def stP3 (R0 p0 R1 p1 R2 p2 R3 p3 : List (List D)) (i : Int) : X := ⟨mkT 36 [(2, .c (.rp 3 0 4 0 0)), (3, ai 0), (4, .c (.rp 5 0 4 0 0)), (5, ai 3), (9, .agg [.d (.s 0 1 R0 p0), .d (.s 0 1 R1 p1), .d (.s 0 1 R2 p2), .d (.s 0 1 R3 p3)]), (10, ai 3), (14, aS 1 R3 p3), (15, ai R3.length), (16, ai i)], [(3, .bx 0 4 [.d nilD, .d nilD, .d nilD, .d nilD]), (5, .bx 0 4 [.rs 2000000 0 3 0 R0.length R0.length, .rs 2000001 0 3 0 R1.length R1.length, .rs 2000002 0 3 0 R2.length R2.length, .d nilD]), (2000000, .sl 0 3 (mW R0)), (2000001, .sl 0 3 (mW R1)), (2000002, .sl 0 3 (mW R2))], [], []⟩
def stN3 (R0 p0 R1 p1 R2 p2 R3 p3 : List (List D)) (W : List (List D)) (m : Nat) (i : Int) : X := ⟨mkT 36 [(2, .c (.rp 3 0 4 0 0)), (3, ai 0), (4, .c (.rp 5 0 4 0 0)), (5, ai 3), (9, .agg [.d (.s 0 1 R0 p0), .d (.s 0 1 R1 p1), .d (.s 0 1 R2 p2), .d (.s 0 1 R3 p3)]), (10, ai 3), (14, aS 1 R3 p3), (15, ai R3.length), (16, ai i)], [(3, .bx 0 4 [.d nilD, .d nilD, .d nilD, .d nilD]), (5, .bx 0 4 [.rs 2000000 0 3 0 R0.length R0.length, .rs 2000001 0 3 0 R1.length R1.length, .rs 2000002 0 3 0 R2.length R2.length, .rs 2000003 0 3 0 m m]), (2000000, .sl 0 3 (mW R0)), (2000001, .sl 0 3 (mW R1)), (2000002, .sl 0 3 (mW R2)), (2000003, .sl 0 3 W)], [], []⟩
def vN3 (R0 p0 R1 p1 R2 p2 R3 p3 : List (List D)) (y : X) : X := stN3 R0 p0 R1 p1 R2 p2 R3 p3 (Zfn y 2000003) (boxL y 5 3) (ZbY y 16)
theorem eN3r (R0 p0 R1 p1 R2 p2 R3 p3 : List (List D)) (W : List (List D)) (m : Nat) (i : Int) (N : X → Prop) (E : Exit → X → Prop) : (ZaA band bor Tryz.prog [] [] Tryz.f48 1 [2, 3, 4, 5, 9, 10, 14, 15, 16] [3, 5, 2000000, 2000001, 2000002, 2000003] (vN3 R0 p0 R1 p1 R2 p2 R3 p3) (vN3 R0 p0 R1 p1 R2 p2 R3 p3) N E (stN3 R0 p0 R1 p1 R2 p2 R3 p3 W m i)) = (bif decide (i < @Nat.cast Int _ (List.length R3)) then bif decide (0 ≤ i) && decide (i < @Nat.cast Int _ (List.length R3)) then bif isJ [IntKind.i64] (List.drop (0) (List.getD R3 (Int.toNat i) [])) then bif decide (m ≤ List.length W) && (decide ((m + 1) * 24 ≤ 140737488355328) && decide (m + 1 ≤ 9223372036854775807)) then stN3 R0 p0 R1 p1 R2 p2 R3 p3 (List.take m W ++ [[D.v (Value.int IntKind.i64 (hdJ (List.drop (0) (List.getD R3 (Int.toNat i) [])))), D.v (Value.int IntKind.i64 (0)), D.v (Value.int IntKind.i64 (0))]]) (Nat.succ m) (IntKind.wrap IntKind.i64 (i + 1)) = stN3 R0 p0 R1 p1 R2 p2 R3 p3 (List.take m W ++ [[D.v (Value.int IntKind.i64 (hdJ (List.drop (0) (List.getD R3 (Int.toNat i) [])))), D.v (Value.int IntKind.i64 (0)), D.v (Value.int IntKind.i64 (0))]]) (Nat.succ m) (IntKind.wrap IntKind.i64 (i + 1)) ∧ N (stN3 R0 p0 R1 p1 R2 p2 R3 p3 (List.take m W ++ [[D.v (Value.int IntKind.i64 (hdJ (List.drop (0) (List.getD R3 (Int.toNat i) [])))), D.v (Value.int IntKind.i64 (0)), D.v (Value.int IntKind.i64 (0))]]) (Nat.succ m) (IntKind.wrap IntKind.i64 (i + 1))) else False else False else False else stN3 R0 p0 R1 p1 R2 p2 R3 p3 W m i = stN3 R0 p0 R1 p1 R2 p2 R3 p3 W m i ∧ E (Exit.exit (2)) (stN3 R0 p0 R1 p1 R2 p2 R3 p3 W m i)) := by kernel_rfl
def sN3 (R0 p0 R1 p1 R2 p2 R3 p3 : List (List D)) : LSum := fun Q x => x.only [2, 3, 4, 5, 9, 10, 14, 15, 16] [3, 5, 2000000, 2000001, 2000002, 2000003] = stP3 R0 p0 R1 p1 R2 p2 R3 p3 0 ∧ Q (.exit 2) (stN3 R0 p0 R1 p1 R2 p2 R3 p3 (mW R3) R3.length R3.length)
def stQ3 (R0 p0 R1 p1 R2 p2 R3 p3 : List (List D)) (e i : Int) : X := ⟨mkT 47 [(1, .c (.rp 2 0 4 0 0)), (2, .c (.rp 3 0 4 0 0)), (3, ai e), (4, .c (.rp 5 0 4 0 0)), (5, ai 3), (6, ai i)], [(2, .bx 0 4 [.d (.s 0 1 R0 p0), .d (.s 0 1 R1 p1), .d (.s 0 1 R2 p2), .d (.s 0 1 R3 p3)]), (3, .bx 0 4 [.d nilD, .d nilD, .d nilD, .d nilD]), (5, .bx 0 4 [.rs 2000000 0 3 0 R0.length R0.length, .rs 2000001 0 3 0 R1.length R1.length, .rs 2000002 0 3 0 R2.length R2.length, .d nilD]), (2000000, .sl 0 3 (mW R0)), (2000001, .sl 0 3 (mW R1)), (2000002, .sl 0 3 (mW R2))], [], []⟩
def stM3 (R0 p0 R1 p1 R2 p2 R3 p3 : List (List D)) (W : List (List D)) (m : Nat) (e i : Int) : X := ⟨mkT 47 [(1, .c (.rp 2 0 4 0 0)), (2, .c (.rp 3 0 4 0 0)), (3, ai e), (4, .c (.rp 5 0 4 0 0)), (5, ai 3), (6, ai i)], [(2, .bx 0 4 [.d (.s 0 1 R0 p0), .d (.s 0 1 R1 p1), .d (.s 0 1 R2 p2), .d (.s 0 1 R3 p3)]), (3, .bx 0 4 [.d nilD, .d nilD, .d nilD, .d nilD]), (5, .bx 0 4 [.rs 2000000 0 3 0 R0.length R0.length, .rs 2000001 0 3 0 R1.length R1.length, .rs 2000002 0 3 0 R2.length R2.length, .rs 2000003 0 3 0 m m]), (2000000, .sl 0 3 (mW R0)), (2000001, .sl 0 3 (mW R1)), (2000002, .sl 0 3 (mW R2)), (2000003, .sl 0 3 W)], [], []⟩
def vM3 (R0 p0 R1 p1 R2 p2 R3 p3 : List (List D)) (y : X) : X := stM3 R0 p0 R1 p1 R2 p2 R3 p3 (Zfn y 2000003) (boxL y 5 3) (ZbY y 3) (ZbY y 6)
theorem eM3r (R0 p0 R1 p1 R2 p2 R3 p3 : List (List D)) (W : List (List D)) (m : Nat) (e i : Int) (N : X → Prop) (E : Exit → X → Prop) : (ZaA band bor Tryz.prog [(91, sB val8)] [] Tryz.f50 1 [1, 2, 3, 4, 5, 6] [2, 3, 5, 2000000, 2000001, 2000002, 2000003] (vM3 R0 p0 R1 p1 R2 p2 R3 p3) (vM3 R0 p0 R1 p1 R2 p2 R3 p3) N E (stM3 R0 p0 R1 p1 R2 p2 R3 p3 W m e i)) = (bif decide (i < @Nat.cast Int _ (List.length R3)) then bif decide (i ≥ 4) then stM3 R0 p0 R1 p1 R2 p2 R3 p3 W m (400) i = stM3 R0 p0 R1 p1 R2 p2 R3 p3 W m (400) i ∧ E Exit.ret (stM3 R0 p0 R1 p1 R2 p2 R3 p3 W m (400) i) else bif decide (0 ≤ i) && decide (i < @Nat.cast Int _ (List.length R3)) then bif isJ [IntKind.i64] (List.drop (0) (List.getD R3 (Int.toNat i) [])) then bif !(decide (hdJ (List.drop (0) (List.getD R3 (Int.toNat i) [])) ≥ 0) && decide (hdJ (List.drop (0) (List.getD R3 (Int.toNat i) [])) ≤ 255)) then stM3 R0 p0 R1 p1 R2 p2 R3 p3 W m (400) i = stM3 R0 p0 R1 p1 R2 p2 R3 p3 W m (400) i ∧ E Exit.ret (stM3 R0 p0 R1 p1 R2 p2 R3 p3 W m (400) i) else bif decide (0 ≤ i) && decide (i < @Nat.cast Int _ (List.length R3)) then bif isJ [IntKind.i64] (List.drop (0) (List.getD R3 (Int.toNat i) [])) then bif decide (m ≤ List.length W) && (decide ((m + 1) * 24 ≤ 140737488355328) && decide (m + 1 ≤ 9223372036854775807)) then stM3 R0 p0 R1 p1 R2 p2 R3 p3 (List.take m W ++ [[D.v (Value.int IntKind.i64 (hdJ (List.drop (0) (List.getD R3 (Int.toNat i) [])))), D.v (Value.int IntKind.i64 (0)), D.v (Value.int IntKind.i64 (0))]]) (Nat.succ m) e (IntKind.wrap IntKind.i64 (i + 1)) = stM3 R0 p0 R1 p1 R2 p2 R3 p3 (List.take m W ++ [[D.v (Value.int IntKind.i64 (hdJ (List.drop (0) (List.getD R3 (Int.toNat i) [])))), D.v (Value.int IntKind.i64 (0)), D.v (Value.int IntKind.i64 (0))]]) (Nat.succ m) e (IntKind.wrap IntKind.i64 (i + 1)) ∧ N (stM3 R0 p0 R1 p1 R2 p2 R3 p3 (List.take m W ++ [[D.v (Value.int IntKind.i64 (hdJ (List.drop (0) (List.getD R3 (Int.toNat i) [])))), D.v (Value.int IntKind.i64 (0)), D.v (Value.int IntKind.i64 (0))]]) (Nat.succ m) e (IntKind.wrap IntKind.i64 (i + 1))) else False else False else False else False else False else stM3 R0 p0 R1 p1 R2 p2 R3 p3 W m e i = stM3 R0 p0 R1 p1 R2 p2 R3 p3 W m e i ∧ E (Exit.exit (2)) (stM3 R0 p0 R1 p1 R2 p2 R3 p3 W m e i)) := by kernel_rfl
def sM3 (R0 p0 R1 p1 R2 p2 R3 p3 : List (List D)) : LSum := fun Q x => x.only [1, 2, 3, 4, 5, 6] [2, 3, 5, 2000000, 2000001, 2000002, 2000003] = stQ3 R0 p0 R1 p1 R2 p2 R3 p3 0 0 ∧ (ZaM (toZ (mW R3)) = false → ∀ (W : List (List D)) (m : Nat) (i : Int), Q .ret (stM3 R0 p0 R1 p1 R2 p2 R3 p3 W m 400 i)) ∧ (ZaM (toZ (mW R3)) = true → Q (.exit 2) (stM3 R0 p0 R1 p1 R2 p2 R3 p3 (mW R3) R3.length 0 R3.length))
def Zj8 (R0 p0 R1 p1 R2 p2 R3 p3 : List (List D)) : LSum := fun Q x => ZpV x 5 fun g =>
  cond (decide (g = 0)) (sN0 R0 p0 R1 p1 R2 p2 R3 p3 Q x) (cond (decide (g = 1)) (sN1 R0 p0 R1 p1 R2 p2 R3 p3 Q x) (cond (decide (g = 2)) (sN2 R0 p0 R1 p1 R2 p2 R3 p3 Q x) (sN3 R0 p0 R1 p1 R2 p2 R3 p3 Q x)))
def Zgi (R0 p0 R1 p1 R2 p2 R3 p3 : List (List D)) : LSum := fun Q x => ZpV x 5 fun g =>
  cond (decide (g = 0)) (sM0 R0 p0 R1 p1 R2 p2 R3 p3 Q x) (cond (decide (g = 1)) (sM1 R0 p0 R1 p1 R2 p2 R3 p3 Q x) (cond (decide (g = 2)) (sM2 R0 p0 R1 p1 R2 p2 R3 p3 Q x) (sM3 R0 p0 R1 p1 R2 p2 R3 p3 Q x)))
theorem eNew (R0 p0 R1 p1 R2 p2 R3 p3 : List (List D)) (K : DV → Prop) : (askL Tryz.prog [(60, Zce)] [(6, Zj8 R0 p0 R1 p1 R2 p2 R3 p3)] Tryz.f48 [dV R0 p0 R1 p1 R2 p2 R3 p3] K) = (stP0 R0 p0 R1 p1 R2 p2 R3 p3 (0) = stP0 R0 p0 R1 p1 R2 p2 R3 p3 (0) ∧ stP1 R0 p0 R1 p1 R2 p2 R3 p3 (0) = stP1 R0 p0 R1 p1 R2 p2 R3 p3 (0) ∧ stP2 R0 p0 R1 p1 R2 p2 R3 p3 (0) = stP2 R0 p0 R1 p1 R2 p2 R3 p3 (0) ∧ stP3 R0 p0 R1 p1 R2 p2 R3 p3 (0) = stP3 R0 p0 R1 p1 R2 p2 R3 p3 (0) ∧ bif decide (0 + List.length R0 ≤ List.length (mW R0)) then bif decide (0 + List.length R1 ≤ List.length (mW R1)) then bif decide (0 + List.length R2 ≤ List.length (mW R2)) then bif decide (0 + List.length R3 ≤ List.length (mW R3)) then bif okA (cut (mW R0) (0) (List.length R0)) (cut (mW R1) (0) (List.length R1)) (cut (mW R2) (0) (List.length R2)) (cut (mW R3) (0) (List.length R3)) then bif !amay (toZ (cut (mW R0) (0) (List.length R0))) (toZ (cut (mW R1) (0) (List.length R1))) (toZ (cut (mW R2) (0) (List.length R2))) (toZ (cut (mW R3) (0) (List.length R3))) then K (DV.tup [DV.agg [D.v (Value.slice none (0) (0)), D.v (Value.slice none (0) (0)), D.v (Value.slice none (0) (0)), D.v (Value.slice none (0) (0))], DV.c (D.v (Value.int IntKind.i64 (400)))]) else bif decide (List.length R0 ≤ List.length (mW R0)) && List.all (mW R0) fun r => List.all r D.keeps then bif decide (List.length R1 ≤ List.length (mW R1)) && List.all (mW R1) fun r => List.all r D.keeps then bif decide (List.length R2 ≤ List.length (mW R2)) && List.all (mW R2) fun r => List.all r D.keeps then bif decide (List.length R3 ≤ List.length (mW R3)) && List.all (mW R3) fun r => List.all r D.keeps then K (DV.tup [DV.agg [D.s (1) (3) (List.take (List.length R0) (mW R0)) (List.take (List.length R0 - List.length R0) (List.drop (List.length R0) (mW R0))), D.s (1) (3) (List.take (List.length R1) (mW R1)) (List.take (List.length R1 - List.length R1) (List.drop (List.length R1) (mW R1))), D.s (1) (3) (List.take (List.length R2) (mW R2)) (List.take (List.length R2 - List.length R2) (List.drop (List.length R2) (mW R2))), D.s (1) (3) (List.take (List.length R3) (mW R3)) (List.take (List.length R3 - List.length R3) (List.drop (List.length R3) (mW R3)))], DV.c (D.v (Value.int IntKind.i64 (0)))]) else False else False else False else False else False else False else False else False else False) := by kernel_rfl
theorem Zt5 (R0 p0 R1 p1 R2 p2 R3 p3 : List (List D)) (K : DV → Prop) : (askL Tryz.prog [(91, sB val8)] [(6, Zgi R0 p0 R1 p1 R2 p2 R3 p3)] Tryz.f50 [dV R0 p0 R1 p1 R2 p2 R3 p3] K) = (stQ0 R0 p0 R1 p1 R2 p2 R3 p3 (0) (0) = stQ0 R0 p0 R1 p1 R2 p2 R3 p3 (0) (0) ∧ (ZaM (toZ (mW R0)) = false → ∀ (W : List (List D)) (m : Nat) (i : Int), K (DV.tup [DV.agg [D.v (Value.slice none (0) (0)), D.v (Value.slice none (0) (0)), D.v (Value.slice none (0) (0)), D.v (Value.slice none (0) (0))], DV.c (D.v (Value.int IntKind.i64 (400)))])) ∧ (ZaM (toZ (mW R0)) = true → stQ1 R0 p0 R1 p1 R2 p2 R3 p3 (0) (0) = stQ1 R0 p0 R1 p1 R2 p2 R3 p3 (0) (0) ∧ (ZaM (toZ (mW R1)) = false → ∀ (W : List (List D)) (m : Nat) (i : Int), K (DV.tup [DV.agg [D.v (Value.slice none (0) (0)), D.v (Value.slice none (0) (0)), D.v (Value.slice none (0) (0)), D.v (Value.slice none (0) (0))], DV.c (D.v (Value.int IntKind.i64 (400)))])) ∧ (ZaM (toZ (mW R1)) = true → stQ2 R0 p0 R1 p1 R2 p2 R3 p3 (0) (0) = stQ2 R0 p0 R1 p1 R2 p2 R3 p3 (0) (0) ∧ (ZaM (toZ (mW R2)) = false → ∀ (W : List (List D)) (m : Nat) (i : Int), K (DV.tup [DV.agg [D.v (Value.slice none (0) (0)), D.v (Value.slice none (0) (0)), D.v (Value.slice none (0) (0)), D.v (Value.slice none (0) (0))], DV.c (D.v (Value.int IntKind.i64 (400)))])) ∧ (ZaM (toZ (mW R2)) = true → stQ3 R0 p0 R1 p1 R2 p2 R3 p3 (0) (0) = stQ3 R0 p0 R1 p1 R2 p2 R3 p3 (0) (0) ∧ (ZaM (toZ (mW R3)) = false → ∀ (W : List (List D)) (m : Nat) (i : Int), K (DV.tup [DV.agg [D.v (Value.slice none (0) (0)), D.v (Value.slice none (0) (0)), D.v (Value.slice none (0) (0)), D.v (Value.slice none (0) (0))], DV.c (D.v (Value.int IntKind.i64 (400)))])) ∧ (ZaM (toZ (mW R3)) = true → bif decide (List.length R0 ≤ List.length (mW R0)) && List.all (mW R0) fun r => List.all r D.keeps then bif decide (List.length R1 ≤ List.length (mW R1)) && List.all (mW R1) fun r => List.all r D.keeps then bif decide (List.length R2 ≤ List.length (mW R2)) && List.all (mW R2) fun r => List.all r D.keeps then bif decide (List.length R3 ≤ List.length (mW R3)) && List.all (mW R3) fun r => List.all r D.keeps then K (DV.tup [DV.agg [D.s (1) (3) (List.take (List.length R0) (mW R0)) (List.take (List.length R0 - List.length R0) (List.drop (List.length R0) (mW R0))), D.s (1) (3) (List.take (List.length R1) (mW R1)) (List.take (List.length R1 - List.length R1) (List.drop (List.length R1) (mW R1))), D.s (1) (3) (List.take (List.length R2) (mW R2)) (List.take (List.length R2 - List.length R2) (List.drop (List.length R2) (mW R2))), D.s (1) (3) (List.take (List.length R3) (mW R3)) (List.take (List.length R3 - List.length R3) (List.drop (List.length R3) (mW R3)))], DV.c (D.v (Value.int IntKind.i64 (0)))]) else False else False else False else False))))) := by kernel_rfl
theorem Zbb (l : List (List Int)) : (mL l).length = l.length := by simp [mL]
theorem ZgS (R : List (List D)) : (mW R).length = R.length := by simp [mW, Zai, Zbb, Zan]
theorem ZdP (l : List (List Int)) {i : Nat} (hi : i < l.length) : List.take i (mZ (mL (l.take i))) ++ [[D.v (Value.int IntKind.i64 ((l.getD i []).getD 0 0)), D.v (Value.int IntKind.i64 0), D.v (Value.int IntKind.i64 0)]] = mZ (mL (l.take (i + 1))) := by
  rw [List.take_of_length_le (by rw [Zai, Zbb, List.length_take]; omega)]
  have : l.take (i + 1) = l.take i ++ [l.getD i []] := by
    rw [List.take_add_one, List.getD_eq_getElem?_getD]
    congr 1
    rw [List.getElem?_eq_getElem hi]; rfl
  rw [this]
  simp [mZ, mL]
theorem Znh (l : List (List Int)) {i : Nat} (hi : i < l.length) : (mL l).getD i [] = [(l.getD i []).getD 0 0, 0, 0] := by
  simp [mL, List.getD_eq_getElem?_getD, hi]
theorem ZiP (v : Int) : ZbA [v, 0, 0] = val8 v := by
  have h1 : clk 0 = true := rfl
  have h2 : upto 0 0 255 = true := rfl
  simp [ZbA, wmay, h1, h2]
theorem Zum (l : List (List Int)) : wid 3 (mL l) := fun r hr => by
  obtain ⟨r0, _, rfl⟩ := List.mem_map.1 hr
  rfl
theorem Zds (R : List (List D)) : toZ (mW R) = mL (toZ R) := ZfO _
theorem ZcO {R : List (List D)} (h : okZ 1 R = true) : okZ 3 (mW R) = true := ZrP (Zum _) (by rw [Zbb, Zan]; exact (Zah h).2.2)
theorem Zv6 {R0 p0 R1 p1 R2 p2 R3 p3 : List (List D)} (hR : okZ 1 R0 = true) (hn : R0.length ≤ 5864062014635) (Q : Exit → X → Prop) (x : X) (h : sN0 R0 p0 R1 p1 R2 p2 R3 p3 Q x) : XWP Tryz.prog (.loop (Zal Tryz.f48 1)) Q x := by
  obtain ⟨h1, h2⟩ := h
  obtain ⟨el, hw, _⟩ := Zah hR
  have hl' : (toZ R0).length = R0.length := Zan _
  refine Zb0 [2, 3, 4, 5, 9, 10, 14, 15, 16] [3, 5, 2000000] (Zcf [2, 3, 4, 5, 9, 10, 14, 15, 16] [3, 5, 2000000] ?_)
  rw [h1]
  refine ZcA (kb := 5) (j := 0) (kn := 2000000) (wd := 3) rfl ?_
  refine Zas (ι := Nat) (H := hkA band bor [] []) (fn := Tryz.f48) (i := 1) (ts := [2, 3, 4, 5, 9, 10, 14, 15, 16]) (ks := [3, 5, 2000000]) (ZaJ .nil) mixed (Zae rfl)
    (fun i => stN0 R0 p0 R1 p1 R2 p2 R3 p3 (mZ (mL ((toZ R0).take i))) i i) (fun i => i ≤ R0.length) (fun i => R0.length - i) 0 (vN0 R0 p0 R1 p1 R2 p2 R3 p3) (vN0 R0 p0 R1 p1 R2 p2 R3 p3) (fun i hi => ?_) (Nat.zero_le _) (by kernel_rfl)
  show ZaA band bor Tryz.prog _ _ Tryz.f48 1 _ _ _ _ _ _ _
  rw [eN0r]
  by_cases hl : i < R0.length
  · have wi : IntKind.wrap .i64 ((i : Int) + 1) = ((i + 1 : Nat) : Int) := Zaj (n := 1) (by omega)
    have hll : i < (toZ R0).length := by omega
    have hj1 : isJ [IntKind.i64] ((R0).getD i []) = true := by
      rw [el]; exact Zau (j := 0) (n := 1) hw hll (by omega)
    have hv : hdJ (R0.getD i []) = ((toZ R0).getD i []).getD 0 0 := by
      rw [show R0.getD i [] = (mZ (toZ R0)).getD i [] by rw [← el], ZaF]
    have hlen : (mZ (mL ((toZ R0).take i))).length = i := by rw [Zai, Zbb, List.length_take]; omega
    have b1 : (i + 1) * 24 ≤ 140737488355328 := by omega
    have b2 : i + 1 ≤ 9223372036854775807 := by omega
    simp only [Int.ofNat_lt, hl, decide_true, cond_true, Int.natCast_nonneg, Bool.and_self, Int.toNat_natCast, hj1, List.drop_zero, hv, true_and, wi, hlen, b1, b2, Nat.le_refl, ZdP _ hll]
    exact ⟨i + 1, by omega, hl, rfl⟩
  · have e : i = R0.length := by omega
    subst e
    simp only [Int.ofNat_lt, Nat.lt_irrefl, decide_false, cond_false, true_and]
    rw [List.take_of_length_le (by omega)]
    exact h2
theorem ZwF {R0 p0 R1 p1 R2 p2 R3 p3 : List (List D)} (hR : okZ 1 R0 = true) (hn : R0.length ≤ 5864062014635) (Q : Exit → X → Prop) (x : X) (h : sM0 R0 p0 R1 p1 R2 p2 R3 p3 Q x) : XWP Tryz.prog (.loop (Zal Tryz.f50 1)) Q x := by
  obtain ⟨h1, h2, h3⟩ := h
  obtain ⟨el, hw, _⟩ := Zah hR
  have hl' : (toZ R0).length = R0.length := Zan _
  refine Zb0 [1, 2, 3, 4, 5, 6] [2, 3, 5, 2000000] (Zcf [1, 2, 3, 4, 5, 6] [2, 3, 5, 2000000] ?_)
  rw [h1]
  refine ZcA (kb := 5) (j := 0) (kn := 2000000) (wd := 3) rfl ?_
  refine Zas (ι := Nat) (H := hkA band bor [(91, sB val8)] []) (fn := Tryz.f50) (i := 1) (ts := [1, 2, 3, 4, 5, 6]) (ks := [2, 3, 5, 2000000]) (ZaJ (.cons ZgR .nil)) mixed (Zae rfl)
    (fun i => stM0 R0 p0 R1 p1 R2 p2 R3 p3 (mZ (mL ((toZ R0).take i))) i 0 i) (fun i => i ≤ R0.length ∧ i ≤ 4 ∧ ∀ j, j < i → ZbA ((mL (toZ R0)).getD j []) = true) (fun i => R0.length - i) 0 (vM0 R0 p0 R1 p1 R2 p2 R3 p3) (vM0 R0 p0 R1 p1 R2 p2 R3 p3) (fun i hp => ?_) ⟨Nat.zero_le _, Nat.zero_le _, fun j hj => by omega⟩ (by kernel_rfl)
  obtain ⟨hi, h4, hj⟩ := hp
  show ZaA band bor Tryz.prog _ _ Tryz.f50 1 _ _ _ _ _ _ _
  rw [eM0r]
  by_cases hl : i < R0.length
  · by_cases h4' : i = 4
    · have e4 : decide ((i : Int) ≥ 4) = true := by simp; omega
      simp only [Int.ofNat_lt, hl, decide_true, cond_true, e4, true_and]
      exact h2 (by rw [Zds]; exact Zbp (by rw [Zbb]; omega)) _ _ _
    · have e4 : decide ((i : Int) ≥ 4) = false := by simp; omega
      have wi : IntKind.wrap .i64 ((i : Int) + 1) = ((i + 1 : Nat) : Int) := Zaj (n := 1) (by omega)
      have hll : i < (toZ R0).length := by omega
      have hj1 : isJ [IntKind.i64] ((R0).getD i []) = true := by
        rw [el]; exact Zau (j := 0) (n := 1) hw hll (by omega)
      have hv : hdJ (R0.getD i []) = ((toZ R0).getD i []).getD 0 0 := by
        rw [show R0.getD i [] = (mZ (toZ R0)).getD i [] by rw [← el], ZaF]
      have hlen : (mZ (mL ((toZ R0).take i))).length = i := by rw [Zai, Zbb, List.length_take]; omega
      have b1 : (i + 1) * 24 ≤ 140737488355328 := by omega
      have b2 : i + 1 ≤ 9223372036854775807 := by omega
      simp only [Int.ofNat_lt, hl, decide_true, cond_true, cond_false, e4, Int.natCast_nonneg, Bool.and_self, Int.toNat_natCast, hj1, List.drop_zero, hv, true_and, wi, hlen, b1, b2, Nat.le_refl, ZdP _ hll]
      have eo : ZbA ((mL (toZ R0)).getD i []) = (decide (((toZ R0).getD i []).getD 0 0 ≥ 0) && decide (((toZ R0).getD i []).getD 0 0 ≤ 255)) := by
        rw [Znh _ hll, ZiP]; rfl
      rw [← eo]
      cases ho : ZbA ((mL (toZ R0)).getD i []) with
      | false =>
        exact h2 (by rw [Zds]; exact Zbe (by rw [Zbb]; exact hll) ho) _ _ _
      | true =>
        refine ⟨i + 1, by omega, ⟨hl, by omega, fun j hji => ?_⟩, rfl⟩
        rcases Nat.lt_succ_iff_lt_or_eq.1 hji with hji | rfl
        · exact hj j hji
        · exact ho
  · have e : i = R0.length := by omega
    subst e
    simp only [Int.ofNat_lt, Nat.lt_irrefl, decide_false, cond_false, true_and]
    rw [List.take_of_length_le (by omega)]
    exact h3 (by rw [Zds]; exact ZbH (by rw [Zbb]; omega) (fun j hj' => hj j (by rw [Zbb] at hj'; omega)))
theorem Zxc {R0 p0 R1 p1 R2 p2 R3 p3 : List (List D)} (hR : okZ 1 R1 = true) (hn : R1.length ≤ 5864062014635) (Q : Exit → X → Prop) (x : X) (h : sN1 R0 p0 R1 p1 R2 p2 R3 p3 Q x) : XWP Tryz.prog (.loop (Zal Tryz.f48 1)) Q x := by
  obtain ⟨h1, h2⟩ := h
  obtain ⟨el, hw, _⟩ := Zah hR
  have hl' : (toZ R1).length = R1.length := Zan _
  refine Zb0 [2, 3, 4, 5, 9, 10, 14, 15, 16] [3, 5, 2000000, 2000001] (Zcf [2, 3, 4, 5, 9, 10, 14, 15, 16] [3, 5, 2000000, 2000001] ?_)
  rw [h1]
  refine ZcA (kb := 5) (j := 1) (kn := 2000001) (wd := 3) rfl ?_
  refine Zas (ι := Nat) (H := hkA band bor [] []) (fn := Tryz.f48) (i := 1) (ts := [2, 3, 4, 5, 9, 10, 14, 15, 16]) (ks := [3, 5, 2000000, 2000001]) (ZaJ .nil) mixed (Zae rfl)
    (fun i => stN1 R0 p0 R1 p1 R2 p2 R3 p3 (mZ (mL ((toZ R1).take i))) i i) (fun i => i ≤ R1.length) (fun i => R1.length - i) 0 (vN1 R0 p0 R1 p1 R2 p2 R3 p3) (vN1 R0 p0 R1 p1 R2 p2 R3 p3) (fun i hi => ?_) (Nat.zero_le _) (by kernel_rfl)
  show ZaA band bor Tryz.prog _ _ Tryz.f48 1 _ _ _ _ _ _ _
  rw [eN1r]
  by_cases hl : i < R1.length
  · have wi : IntKind.wrap .i64 ((i : Int) + 1) = ((i + 1 : Nat) : Int) := Zaj (n := 1) (by omega)
    have hll : i < (toZ R1).length := by omega
    have hj1 : isJ [IntKind.i64] ((R1).getD i []) = true := by
      rw [el]; exact Zau (j := 0) (n := 1) hw hll (by omega)
    have hv : hdJ (R1.getD i []) = ((toZ R1).getD i []).getD 0 0 := by
      rw [show R1.getD i [] = (mZ (toZ R1)).getD i [] by rw [← el], ZaF]
    have hlen : (mZ (mL ((toZ R1).take i))).length = i := by rw [Zai, Zbb, List.length_take]; omega
    have b1 : (i + 1) * 24 ≤ 140737488355328 := by omega
    have b2 : i + 1 ≤ 9223372036854775807 := by omega
    simp only [Int.ofNat_lt, hl, decide_true, cond_true, Int.natCast_nonneg, Bool.and_self, Int.toNat_natCast, hj1, List.drop_zero, hv, true_and, wi, hlen, b1, b2, Nat.le_refl, ZdP _ hll]
    exact ⟨i + 1, by omega, hl, rfl⟩
  · have e : i = R1.length := by omega
    subst e
    simp only [Int.ofNat_lt, Nat.lt_irrefl, decide_false, cond_false, true_and]
    rw [List.take_of_length_le (by omega)]
    exact h2
theorem Zwl {R0 p0 R1 p1 R2 p2 R3 p3 : List (List D)} (hR : okZ 1 R1 = true) (hn : R1.length ≤ 5864062014635) (Q : Exit → X → Prop) (x : X) (h : sM1 R0 p0 R1 p1 R2 p2 R3 p3 Q x) : XWP Tryz.prog (.loop (Zal Tryz.f50 1)) Q x := by
  obtain ⟨h1, h2, h3⟩ := h
  obtain ⟨el, hw, _⟩ := Zah hR
  have hl' : (toZ R1).length = R1.length := Zan _
  refine Zb0 [1, 2, 3, 4, 5, 6] [2, 3, 5, 2000000, 2000001] (Zcf [1, 2, 3, 4, 5, 6] [2, 3, 5, 2000000, 2000001] ?_)
  rw [h1]
  refine ZcA (kb := 5) (j := 1) (kn := 2000001) (wd := 3) rfl ?_
  refine Zas (ι := Nat) (H := hkA band bor [(91, sB val8)] []) (fn := Tryz.f50) (i := 1) (ts := [1, 2, 3, 4, 5, 6]) (ks := [2, 3, 5, 2000000, 2000001]) (ZaJ (.cons ZgR .nil)) mixed (Zae rfl)
    (fun i => stM1 R0 p0 R1 p1 R2 p2 R3 p3 (mZ (mL ((toZ R1).take i))) i 0 i) (fun i => i ≤ R1.length ∧ i ≤ 4 ∧ ∀ j, j < i → ZbA ((mL (toZ R1)).getD j []) = true) (fun i => R1.length - i) 0 (vM1 R0 p0 R1 p1 R2 p2 R3 p3) (vM1 R0 p0 R1 p1 R2 p2 R3 p3) (fun i hp => ?_) ⟨Nat.zero_le _, Nat.zero_le _, fun j hj => by omega⟩ (by kernel_rfl)
  obtain ⟨hi, h4, hj⟩ := hp
  show ZaA band bor Tryz.prog _ _ Tryz.f50 1 _ _ _ _ _ _ _
  rw [eM1r]
  by_cases hl : i < R1.length
  · by_cases h4' : i = 4
    · have e4 : decide ((i : Int) ≥ 4) = true := by simp; omega
      simp only [Int.ofNat_lt, hl, decide_true, cond_true, e4, true_and]
      exact h2 (by rw [Zds]; exact Zbp (by rw [Zbb]; omega)) _ _ _
    · have e4 : decide ((i : Int) ≥ 4) = false := by simp; omega
      have wi : IntKind.wrap .i64 ((i : Int) + 1) = ((i + 1 : Nat) : Int) := Zaj (n := 1) (by omega)
      have hll : i < (toZ R1).length := by omega
      have hj1 : isJ [IntKind.i64] ((R1).getD i []) = true := by
        rw [el]; exact Zau (j := 0) (n := 1) hw hll (by omega)
      have hv : hdJ (R1.getD i []) = ((toZ R1).getD i []).getD 0 0 := by
        rw [show R1.getD i [] = (mZ (toZ R1)).getD i [] by rw [← el], ZaF]
      have hlen : (mZ (mL ((toZ R1).take i))).length = i := by rw [Zai, Zbb, List.length_take]; omega
      have b1 : (i + 1) * 24 ≤ 140737488355328 := by omega
      have b2 : i + 1 ≤ 9223372036854775807 := by omega
      simp only [Int.ofNat_lt, hl, decide_true, cond_true, cond_false, e4, Int.natCast_nonneg, Bool.and_self, Int.toNat_natCast, hj1, List.drop_zero, hv, true_and, wi, hlen, b1, b2, Nat.le_refl, ZdP _ hll]
      have eo : ZbA ((mL (toZ R1)).getD i []) = (decide (((toZ R1).getD i []).getD 0 0 ≥ 0) && decide (((toZ R1).getD i []).getD 0 0 ≤ 255)) := by
        rw [Znh _ hll, ZiP]; rfl
      rw [← eo]
      cases ho : ZbA ((mL (toZ R1)).getD i []) with
      | false =>
        exact h2 (by rw [Zds]; exact Zbe (by rw [Zbb]; exact hll) ho) _ _ _
      | true =>
        refine ⟨i + 1, by omega, ⟨hl, by omega, fun j hji => ?_⟩, rfl⟩
        rcases Nat.lt_succ_iff_lt_or_eq.1 hji with hji | rfl
        · exact hj j hji
        · exact ho
  · have e : i = R1.length := by omega
    subst e
    simp only [Int.ofNat_lt, Nat.lt_irrefl, decide_false, cond_false, true_and]
    rw [List.take_of_length_le (by omega)]
    exact h3 (by rw [Zds]; exact ZbH (by rw [Zbb]; omega) (fun j hj' => hj j (by rw [Zbb] at hj'; omega)))
theorem Zvn {R0 p0 R1 p1 R2 p2 R3 p3 : List (List D)} (hR : okZ 1 R2 = true) (hn : R2.length ≤ 5864062014635) (Q : Exit → X → Prop) (x : X) (h : sN2 R0 p0 R1 p1 R2 p2 R3 p3 Q x) : XWP Tryz.prog (.loop (Zal Tryz.f48 1)) Q x := by
  obtain ⟨h1, h2⟩ := h
  obtain ⟨el, hw, _⟩ := Zah hR
  have hl' : (toZ R2).length = R2.length := Zan _
  refine Zb0 [2, 3, 4, 5, 9, 10, 14, 15, 16] [3, 5, 2000000, 2000001, 2000002] (Zcf [2, 3, 4, 5, 9, 10, 14, 15, 16] [3, 5, 2000000, 2000001, 2000002] ?_)
  rw [h1]
  refine ZcA (kb := 5) (j := 2) (kn := 2000002) (wd := 3) rfl ?_
  refine Zas (ι := Nat) (H := hkA band bor [] []) (fn := Tryz.f48) (i := 1) (ts := [2, 3, 4, 5, 9, 10, 14, 15, 16]) (ks := [3, 5, 2000000, 2000001, 2000002]) (ZaJ .nil) mixed (Zae rfl)
    (fun i => stN2 R0 p0 R1 p1 R2 p2 R3 p3 (mZ (mL ((toZ R2).take i))) i i) (fun i => i ≤ R2.length) (fun i => R2.length - i) 0 (vN2 R0 p0 R1 p1 R2 p2 R3 p3) (vN2 R0 p0 R1 p1 R2 p2 R3 p3) (fun i hi => ?_) (Nat.zero_le _) (by kernel_rfl)
  show ZaA band bor Tryz.prog _ _ Tryz.f48 1 _ _ _ _ _ _ _
  rw [eN2r]
  by_cases hl : i < R2.length
  · have wi : IntKind.wrap .i64 ((i : Int) + 1) = ((i + 1 : Nat) : Int) := Zaj (n := 1) (by omega)
    have hll : i < (toZ R2).length := by omega
    have hj1 : isJ [IntKind.i64] ((R2).getD i []) = true := by
      rw [el]; exact Zau (j := 0) (n := 1) hw hll (by omega)
    have hv : hdJ (R2.getD i []) = ((toZ R2).getD i []).getD 0 0 := by
      rw [show R2.getD i [] = (mZ (toZ R2)).getD i [] by rw [← el], ZaF]
    have hlen : (mZ (mL ((toZ R2).take i))).length = i := by rw [Zai, Zbb, List.length_take]; omega
    have b1 : (i + 1) * 24 ≤ 140737488355328 := by omega
    have b2 : i + 1 ≤ 9223372036854775807 := by omega
    simp only [Int.ofNat_lt, hl, decide_true, cond_true, Int.natCast_nonneg, Bool.and_self, Int.toNat_natCast, hj1, List.drop_zero, hv, true_and, wi, hlen, b1, b2, Nat.le_refl, ZdP _ hll]
    exact ⟨i + 1, by omega, hl, rfl⟩
  · have e : i = R2.length := by omega
    subst e
    simp only [Int.ofNat_lt, Nat.lt_irrefl, decide_false, cond_false, true_and]
    rw [List.take_of_length_le (by omega)]
    exact h2
theorem ZvW {R0 p0 R1 p1 R2 p2 R3 p3 : List (List D)} (hR : okZ 1 R2 = true) (hn : R2.length ≤ 5864062014635) (Q : Exit → X → Prop) (x : X) (h : sM2 R0 p0 R1 p1 R2 p2 R3 p3 Q x) : XWP Tryz.prog (.loop (Zal Tryz.f50 1)) Q x := by
  obtain ⟨h1, h2, h3⟩ := h
  obtain ⟨el, hw, _⟩ := Zah hR
  have hl' : (toZ R2).length = R2.length := Zan _
  refine Zb0 [1, 2, 3, 4, 5, 6] [2, 3, 5, 2000000, 2000001, 2000002] (Zcf [1, 2, 3, 4, 5, 6] [2, 3, 5, 2000000, 2000001, 2000002] ?_)
  rw [h1]
  refine ZcA (kb := 5) (j := 2) (kn := 2000002) (wd := 3) rfl ?_
  refine Zas (ι := Nat) (H := hkA band bor [(91, sB val8)] []) (fn := Tryz.f50) (i := 1) (ts := [1, 2, 3, 4, 5, 6]) (ks := [2, 3, 5, 2000000, 2000001, 2000002]) (ZaJ (.cons ZgR .nil)) mixed (Zae rfl)
    (fun i => stM2 R0 p0 R1 p1 R2 p2 R3 p3 (mZ (mL ((toZ R2).take i))) i 0 i) (fun i => i ≤ R2.length ∧ i ≤ 4 ∧ ∀ j, j < i → ZbA ((mL (toZ R2)).getD j []) = true) (fun i => R2.length - i) 0 (vM2 R0 p0 R1 p1 R2 p2 R3 p3) (vM2 R0 p0 R1 p1 R2 p2 R3 p3) (fun i hp => ?_) ⟨Nat.zero_le _, Nat.zero_le _, fun j hj => by omega⟩ (by kernel_rfl)
  obtain ⟨hi, h4, hj⟩ := hp
  show ZaA band bor Tryz.prog _ _ Tryz.f50 1 _ _ _ _ _ _ _
  rw [eM2r]
  by_cases hl : i < R2.length
  · by_cases h4' : i = 4
    · have e4 : decide ((i : Int) ≥ 4) = true := by simp; omega
      simp only [Int.ofNat_lt, hl, decide_true, cond_true, e4, true_and]
      exact h2 (by rw [Zds]; exact Zbp (by rw [Zbb]; omega)) _ _ _
    · have e4 : decide ((i : Int) ≥ 4) = false := by simp; omega
      have wi : IntKind.wrap .i64 ((i : Int) + 1) = ((i + 1 : Nat) : Int) := Zaj (n := 1) (by omega)
      have hll : i < (toZ R2).length := by omega
      have hj1 : isJ [IntKind.i64] ((R2).getD i []) = true := by
        rw [el]; exact Zau (j := 0) (n := 1) hw hll (by omega)
      have hv : hdJ (R2.getD i []) = ((toZ R2).getD i []).getD 0 0 := by
        rw [show R2.getD i [] = (mZ (toZ R2)).getD i [] by rw [← el], ZaF]
      have hlen : (mZ (mL ((toZ R2).take i))).length = i := by rw [Zai, Zbb, List.length_take]; omega
      have b1 : (i + 1) * 24 ≤ 140737488355328 := by omega
      have b2 : i + 1 ≤ 9223372036854775807 := by omega
      simp only [Int.ofNat_lt, hl, decide_true, cond_true, cond_false, e4, Int.natCast_nonneg, Bool.and_self, Int.toNat_natCast, hj1, List.drop_zero, hv, true_and, wi, hlen, b1, b2, Nat.le_refl, ZdP _ hll]
      have eo : ZbA ((mL (toZ R2)).getD i []) = (decide (((toZ R2).getD i []).getD 0 0 ≥ 0) && decide (((toZ R2).getD i []).getD 0 0 ≤ 255)) := by
        rw [Znh _ hll, ZiP]; rfl
      rw [← eo]
      cases ho : ZbA ((mL (toZ R2)).getD i []) with
      | false =>
        exact h2 (by rw [Zds]; exact Zbe (by rw [Zbb]; exact hll) ho) _ _ _
      | true =>
        refine ⟨i + 1, by omega, ⟨hl, by omega, fun j hji => ?_⟩, rfl⟩
        rcases Nat.lt_succ_iff_lt_or_eq.1 hji with hji | rfl
        · exact hj j hji
        · exact ho
  · have e : i = R2.length := by omega
    subst e
    simp only [Int.ofNat_lt, Nat.lt_irrefl, decide_false, cond_false, true_and]
    rw [List.take_of_length_le (by omega)]
    exact h3 (by rw [Zds]; exact ZbH (by rw [Zbb]; omega) (fun j hj' => hj j (by rw [Zbb] at hj'; omega)))
theorem Zv3 {R0 p0 R1 p1 R2 p2 R3 p3 : List (List D)} (hR : okZ 1 R3 = true) (hn : R3.length ≤ 5864062014635) (Q : Exit → X → Prop) (x : X) (h : sN3 R0 p0 R1 p1 R2 p2 R3 p3 Q x) : XWP Tryz.prog (.loop (Zal Tryz.f48 1)) Q x := by
  obtain ⟨h1, h2⟩ := h
  obtain ⟨el, hw, _⟩ := Zah hR
  have hl' : (toZ R3).length = R3.length := Zan _
  refine Zb0 [2, 3, 4, 5, 9, 10, 14, 15, 16] [3, 5, 2000000, 2000001, 2000002, 2000003] (Zcf [2, 3, 4, 5, 9, 10, 14, 15, 16] [3, 5, 2000000, 2000001, 2000002, 2000003] ?_)
  rw [h1]
  refine ZcA (kb := 5) (j := 3) (kn := 2000003) (wd := 3) rfl ?_
  refine Zas (ι := Nat) (H := hkA band bor [] []) (fn := Tryz.f48) (i := 1) (ts := [2, 3, 4, 5, 9, 10, 14, 15, 16]) (ks := [3, 5, 2000000, 2000001, 2000002, 2000003]) (ZaJ .nil) mixed (Zae rfl)
    (fun i => stN3 R0 p0 R1 p1 R2 p2 R3 p3 (mZ (mL ((toZ R3).take i))) i i) (fun i => i ≤ R3.length) (fun i => R3.length - i) 0 (vN3 R0 p0 R1 p1 R2 p2 R3 p3) (vN3 R0 p0 R1 p1 R2 p2 R3 p3) (fun i hi => ?_) (Nat.zero_le _) (by kernel_rfl)
  show ZaA band bor Tryz.prog _ _ Tryz.f48 1 _ _ _ _ _ _ _
  rw [eN3r]
  by_cases hl : i < R3.length
  · have wi : IntKind.wrap .i64 ((i : Int) + 1) = ((i + 1 : Nat) : Int) := Zaj (n := 1) (by omega)
    have hll : i < (toZ R3).length := by omega
    have hj1 : isJ [IntKind.i64] ((R3).getD i []) = true := by
      rw [el]; exact Zau (j := 0) (n := 1) hw hll (by omega)
    have hv : hdJ (R3.getD i []) = ((toZ R3).getD i []).getD 0 0 := by
      rw [show R3.getD i [] = (mZ (toZ R3)).getD i [] by rw [← el], ZaF]
    have hlen : (mZ (mL ((toZ R3).take i))).length = i := by rw [Zai, Zbb, List.length_take]; omega
    have b1 : (i + 1) * 24 ≤ 140737488355328 := by omega
    have b2 : i + 1 ≤ 9223372036854775807 := by omega
    simp only [Int.ofNat_lt, hl, decide_true, cond_true, Int.natCast_nonneg, Bool.and_self, Int.toNat_natCast, hj1, List.drop_zero, hv, true_and, wi, hlen, b1, b2, Nat.le_refl, ZdP _ hll]
    exact ⟨i + 1, by omega, hl, rfl⟩
  · have e : i = R3.length := by omega
    subst e
    simp only [Int.ofNat_lt, Nat.lt_irrefl, decide_false, cond_false, true_and]
    rw [List.take_of_length_le (by omega)]
    exact h2
theorem Zv9 {R0 p0 R1 p1 R2 p2 R3 p3 : List (List D)} (hR : okZ 1 R3 = true) (hn : R3.length ≤ 5864062014635) (Q : Exit → X → Prop) (x : X) (h : sM3 R0 p0 R1 p1 R2 p2 R3 p3 Q x) : XWP Tryz.prog (.loop (Zal Tryz.f50 1)) Q x := by
  obtain ⟨h1, h2, h3⟩ := h
  obtain ⟨el, hw, _⟩ := Zah hR
  have hl' : (toZ R3).length = R3.length := Zan _
  refine Zb0 [1, 2, 3, 4, 5, 6] [2, 3, 5, 2000000, 2000001, 2000002, 2000003] (Zcf [1, 2, 3, 4, 5, 6] [2, 3, 5, 2000000, 2000001, 2000002, 2000003] ?_)
  rw [h1]
  refine ZcA (kb := 5) (j := 3) (kn := 2000003) (wd := 3) rfl ?_
  refine Zas (ι := Nat) (H := hkA band bor [(91, sB val8)] []) (fn := Tryz.f50) (i := 1) (ts := [1, 2, 3, 4, 5, 6]) (ks := [2, 3, 5, 2000000, 2000001, 2000002, 2000003]) (ZaJ (.cons ZgR .nil)) mixed (Zae rfl)
    (fun i => stM3 R0 p0 R1 p1 R2 p2 R3 p3 (mZ (mL ((toZ R3).take i))) i 0 i) (fun i => i ≤ R3.length ∧ i ≤ 4 ∧ ∀ j, j < i → ZbA ((mL (toZ R3)).getD j []) = true) (fun i => R3.length - i) 0 (vM3 R0 p0 R1 p1 R2 p2 R3 p3) (vM3 R0 p0 R1 p1 R2 p2 R3 p3) (fun i hp => ?_) ⟨Nat.zero_le _, Nat.zero_le _, fun j hj => by omega⟩ (by kernel_rfl)
  obtain ⟨hi, h4, hj⟩ := hp
  show ZaA band bor Tryz.prog _ _ Tryz.f50 1 _ _ _ _ _ _ _
  rw [eM3r]
  by_cases hl : i < R3.length
  · by_cases h4' : i = 4
    · have e4 : decide ((i : Int) ≥ 4) = true := by simp; omega
      simp only [Int.ofNat_lt, hl, decide_true, cond_true, e4, true_and]
      exact h2 (by rw [Zds]; exact Zbp (by rw [Zbb]; omega)) _ _ _
    · have e4 : decide ((i : Int) ≥ 4) = false := by simp; omega
      have wi : IntKind.wrap .i64 ((i : Int) + 1) = ((i + 1 : Nat) : Int) := Zaj (n := 1) (by omega)
      have hll : i < (toZ R3).length := by omega
      have hj1 : isJ [IntKind.i64] ((R3).getD i []) = true := by
        rw [el]; exact Zau (j := 0) (n := 1) hw hll (by omega)
      have hv : hdJ (R3.getD i []) = ((toZ R3).getD i []).getD 0 0 := by
        rw [show R3.getD i [] = (mZ (toZ R3)).getD i [] by rw [← el], ZaF]
      have hlen : (mZ (mL ((toZ R3).take i))).length = i := by rw [Zai, Zbb, List.length_take]; omega
      have b1 : (i + 1) * 24 ≤ 140737488355328 := by omega
      have b2 : i + 1 ≤ 9223372036854775807 := by omega
      simp only [Int.ofNat_lt, hl, decide_true, cond_true, cond_false, e4, Int.natCast_nonneg, Bool.and_self, Int.toNat_natCast, hj1, List.drop_zero, hv, true_and, wi, hlen, b1, b2, Nat.le_refl, ZdP _ hll]
      have eo : ZbA ((mL (toZ R3)).getD i []) = (decide (((toZ R3).getD i []).getD 0 0 ≥ 0) && decide (((toZ R3).getD i []).getD 0 0 ≤ 255)) := by
        rw [Znh _ hll, ZiP]; rfl
      rw [← eo]
      cases ho : ZbA ((mL (toZ R3)).getD i []) with
      | false =>
        exact h2 (by rw [Zds]; exact Zbe (by rw [Zbb]; exact hll) ho) _ _ _
      | true =>
        refine ⟨i + 1, by omega, ⟨hl, by omega, fun j hji => ?_⟩, rfl⟩
        rcases Nat.lt_succ_iff_lt_or_eq.1 hji with hji | rfl
        · exact hj j hji
        · exact ho
  · have e : i = R3.length := by omega
    subst e
    simp only [Int.ofNat_lt, Nat.lt_irrefl, decide_false, cond_false, true_and]
    rw [List.take_of_length_le (by omega)]
    exact h3 (by rw [Zds]; exact ZbH (by rw [Zbb]; omega) (fun j hj' => hj j (by rw [Zbb] at hj'; omega)))
theorem Zom {R0 p0 R1 p1 R2 p2 R3 p3 : List (List D)} (h0 : okZ 1 R0 = true) (h1 : okZ 1 R1 = true) (h2 : okZ 1 R2 = true) (h3 : okZ 1 R3 = true) (l0 : R0.length ≤ 5864062014635) (l1 : R1.length ≤ 5864062014635) (l2 : R2.length ≤ 5864062014635) (l3 : R3.length ≤ 5864062014635) (Q : Exit → X → Prop) (x : X) (h : Zj8 R0 p0 R1 p1 R2 p2 R3 p3 Q x) : XWP Tryz.prog (.loop (Zal Tryz.f48 1)) Q x := by
  obtain ⟨g, h⟩ := Zfc h
  cases hd : decide (g = 0) with
  | true =>
    rw [hd, cond_true] at h
    exact Zv6 h0 l0 Q x h
  | false =>
    rw [hd, cond_false] at h
    cases hd : decide (g = 1) with
    | true =>
      rw [hd, cond_true] at h
      exact Zxc h1 l1 Q x h
    | false =>
      rw [hd, cond_false] at h
      cases hd : decide (g = 2) with
      | true =>
        rw [hd, cond_true] at h
        exact Zvn h2 l2 Q x h
      | false =>
        rw [hd, cond_false] at h
        exact Zv3 h3 l3 Q x h
theorem Zoi {R0 p0 R1 p1 R2 p2 R3 p3 : List (List D)} (h0 : okZ 1 R0 = true) (h1 : okZ 1 R1 = true) (h2 : okZ 1 R2 = true) (h3 : okZ 1 R3 = true) (l0 : R0.length ≤ 5864062014635) (l1 : R1.length ≤ 5864062014635) (l2 : R2.length ≤ 5864062014635) (l3 : R3.length ≤ 5864062014635) (Q : Exit → X → Prop) (x : X) (h : Zgi R0 p0 R1 p1 R2 p2 R3 p3 Q x) : XWP Tryz.prog (.loop (Zal Tryz.f50 1)) Q x := by
  obtain ⟨g, h⟩ := Zfc h
  cases hd : decide (g = 0) with
  | true =>
    rw [hd, cond_true] at h
    exact ZwF h0 l0 Q x h
  | false =>
    rw [hd, cond_false] at h
    cases hd : decide (g = 1) with
    | true =>
      rw [hd, cond_true] at h
      exact Zwl h1 l1 Q x h
    | false =>
      rw [hd, cond_false] at h
      cases hd : decide (g = 2) with
      | true =>
        rw [hd, cond_true] at h
        exact ZvW h2 l2 Q x h
      | false =>
        rw [hd, cond_false] at h
        exact Zv9 h3 l3 Q x h
def okV (R : List (List D)) : Bool := okZ 1 R && decide (R.length ≤ 5864062014635)
def okV4 (R0 R1 R2 R3 : List (List D)) : Bool := okV R0 && (okV R1 && (okV R2 && okV R3))
theorem Zb2 {R0 R1 R2 R3 : List (List D)} (h : okV4 R0 R1 R2 R3 = true) : (okZ 1 R0 = true ∧ R0.length ≤ 5864062014635) ∧ (okZ 1 R1 = true ∧ R1.length ≤ 5864062014635) ∧ (okZ 1 R2 = true ∧ R2.length ≤ 5864062014635) ∧ (okZ 1 R3 = true ∧ R3.length ≤ 5864062014635) := by
  simpa [okV4, okV, Bool.and_eq_true] using h
def sNew : Spec := fun ds Q => match ds with | [.agg [.s 0 1 R0 p0, .s 0 1 R1 p1, .s 0 1 R2 p2, .s 0 1 R3 p3]] => cond (okV4 R0 R1 R2 R3) (cond (amay (toZ (mW R0)) (toZ (mW R1)) (toZ (mW R2)) (toZ (mW R3))) (Q (.tup [dO (mW R0) (mW R1) (mW R2) (mW R3), I 0])) (Q (.tup [dNil, I 400]))) False | _ => False
theorem oNew : Zad Tryz.prog 48 sNew := o_of Tryz.func48 (by kernel_rfl) rfl fun ds Q h => by
  unfold sNew at h; split at h
  · rename_i R0 p0 R1 p1 R2 p2 R3 p3
    obtain ⟨h1, h2⟩ := Zag h
    obtain ⟨⟨a0, l0⟩, ⟨a1, l1⟩, ⟨a2, l2⟩, ⟨a3, l3⟩⟩ := Zb2 h1
    have z0 := ZcO a0
    have z1 := ZcO a1
    have z2 := ZcO a2
    have z3 := ZcO a3
    have hz : okA (mW R0) (mW R1) (mW R2) (mW R3) = true := by simp [okA, z0, z1, z2, z3]
    have hL : Zaz Tryz.prog (hkl [(60, Zce)] [(6, Zj8 R0 p0 R1 p1 R2 p2 R3 p3)]) (Zav Tryz.f48) := ZpN rfl (by kernel_rfl) (by kernel_rfl) (Zom a0 a1 a2 a3 l0 l1 l2 l3)
    have tk : ∀ R : List (List D), List.take R.length (mW R) = mW R := fun R => List.take_of_length_le (by rw [ZgS]; omega)
    cases hm : amay (toZ (mW R0)) (toZ (mW R1)) (toZ (mW R2)) (toZ (mW R3)) with
    | false =>
      rw [hm] at h2
      refine ⟨_, ZaB (l := [(60, Zce)]) (m := [(6, Zj8 R0 p0 R1 p1 R2 p2 R3 p3)]) (.cons Zj1 .nil) mixed hL Tryz.func48 rfl rfl rfl ?_, rfl, rfl, h2⟩
      rw [eNew]
      simp only [Nat.zero_add, ZgS, Nat.le_refl, decide_true, cond_true, Ze6 (ZgS _), hz, hm, Bool.not_false, true_and]
    | true =>
      rw [hm] at h2
      refine ⟨_, ZaB (l := [(60, Zce)]) (m := [(6, Zj8 R0 p0 R1 p1 R2 p2 R3 p3)]) (.cons Zj1 .nil) mixed hL Tryz.func48 rfl rfl rfl ?_, ZmM z0 z1 z2 z3 _, rfl, h2⟩
      rw [eNew]
      simp only [Nat.zero_add, ZgS, Nat.le_refl, decide_true, cond_true, cond_false, Ze6 (ZgS _), hz, hm, Bool.not_true, true_and, Zao (Zab z0), Zao (Zab z1), Zao (Zab z2), Zao (Zab z3), Bool.and_self, tk, Nat.sub_self, List.take_zero]
  · exact h.elim
theorem Zto : Zad Tryz.prog 50 sNew := o_of Tryz.func50 (by kernel_rfl) rfl fun ds Q h => by
  unfold sNew at h; split at h
  · rename_i R0 p0 R1 p1 R2 p2 R3 p3
    obtain ⟨h1, h2⟩ := Zag h
    obtain ⟨⟨a0, l0⟩, ⟨a1, l1⟩, ⟨a2, l2⟩, ⟨a3, l3⟩⟩ := Zb2 h1
    have z0 := ZcO a0
    have z1 := ZcO a1
    have z2 := ZcO a2
    have z3 := ZcO a3
    have hz : okA (mW R0) (mW R1) (mW R2) (mW R3) = true := by simp [okA, z0, z1, z2, z3]
    have hL : Zaz Tryz.prog (hkl [(91, sB val8)] [(6, Zgi R0 p0 R1 p1 R2 p2 R3 p3)]) (Zav Tryz.f50) := ZpN rfl (by kernel_rfl) (by kernel_rfl) (Zoi a0 a1 a2 a3 l0 l1 l2 l3)
    have tk : ∀ R : List (List D), List.take R.length (mW R) = mW R := fun R => List.take_of_length_le (by rw [ZgS]; omega)
    cases hm : amay (toZ (mW R0)) (toZ (mW R1)) (toZ (mW R2)) (toZ (mW R3)) with
    | false =>
      rw [hm] at h2
      refine ⟨_, ZaB (l := [(91, sB val8)]) (m := [(6, Zgi R0 p0 R1 p1 R2 p2 R3 p3)]) (.cons ZgR .nil) mixed hL Tryz.func50 rfl rfl rfl ?_, rfl, rfl, h2⟩
      rw [Zt5]
      cases q0 : ZaM (toZ (mW R0)) with
      | false => exact ⟨rfl, fun _ _ _ _ => rfl, fun e => (nomatch e)⟩
      | true =>
        refine ⟨rfl, fun e => (nomatch e), fun _ => ?_⟩
        cases q1 : ZaM (toZ (mW R1)) with
        | false => exact ⟨rfl, fun _ _ _ _ => rfl, fun e => (nomatch e)⟩
        | true =>
          refine ⟨rfl, fun e => (nomatch e), fun _ => ?_⟩
          cases q2 : ZaM (toZ (mW R2)) with
          | false => exact ⟨rfl, fun _ _ _ _ => rfl, fun e => (nomatch e)⟩
          | true =>
            refine ⟨rfl, fun e => (nomatch e), fun _ => ?_⟩
            cases q3 : ZaM (toZ (mW R3)) with
            | false => exact ⟨rfl, fun _ _ _ _ => rfl, fun e => (nomatch e)⟩
            | true => rw [amay, q0, q1, q2, q3] at hm; cases hm
    | true =>
      rw [hm] at h2
      refine ⟨_, ZaB (l := [(91, sB val8)]) (m := [(6, Zgi R0 p0 R1 p1 R2 p2 R3 p3)]) (.cons ZgR .nil) mixed hL Tryz.func50 rfl rfl rfl ?_, ZmM z0 z1 z2 z3 _, rfl, h2⟩
      rw [Zt5]
      simp only [amay, Bool.and_eq_true] at hm
      obtain ⟨q0, q1, q2, q3⟩ := hm
      simp only [q0, q1, q2, q3, Bool.true_eq_false, false_implies, true_implies, true_and, ZgS, Nat.le_refl, decide_true, cond_true, Zao (Zab z0), Zao (Zab z1), Zao (Zab z2), Zao (Zab z3), Bool.and_self, tk, Nat.sub_self, List.take_zero]
  · exact h.elim
def Zei : Spec := fun ds Q => match ds with
  | [.agg [.s 1 3 R0 p0, .s 1 3 R1 p1, .s 1 3 R2 p2, .s 1 3 R3 p3]] => cond (okZ 3 (R0 ++ p0) && (okZ 3 (R1 ++ p1) && (okZ 3 (R2 ++ p2) && okZ 3 (R3 ++ p3)))) (Q (.tup [])) False
  | [.agg [.v (.slice none 0 0), .v (.slice none 0 0), .v (.slice none 0 0), .v (.slice none 0 0)]] => Q (.tup [])
  | _ => False
def gA : Hooks := { hkA band bor [(124, Zec)] [] with give := fun _ => true }
theorem Zt7 : Zam Tryz.prog gA := ZaJ (m := []) (.cons Zmu .nil)
def ZqZ (args : List DV) (K : DV → Prop) : Prop := evp Tryz.prog gA 200 (Zav Tryz.f72) (finX Tryz.prog Tryz.f72 K) (Zb6 Tryz.f72.ntmps args)
theorem ZsF (R0 p0 R1 p1 R2 p2 R3 p3 : List (List D)) (K : DV → Prop) : (ZqZ [.agg [.s 1 3 R0 p0, .s 1 3 R1 p1, .s 1 3 R2 p2, .s 1 3 R3 p3]] K) = (bif decide (List.length R0 ≤ List.length (R0 ++ p0)) && List.all (R0 ++ p0) fun r => List.all r D.keeps then bif allV (R0 ++ p0) then bif okZ (3) (List.take (List.length R0) (R0 ++ p0) ++ List.take (List.length R0 + List.length p0 - List.length R0) (List.drop (List.length R0) (R0 ++ p0))) then bif decide (List.length R1 ≤ List.length (R1 ++ p1)) && List.all (R1 ++ p1) fun r => List.all r D.keeps then bif allV (R1 ++ p1) then bif okZ (3) (List.take (List.length R1) (R1 ++ p1) ++ List.take (List.length R1 + List.length p1 - List.length R1) (List.drop (List.length R1) (R1 ++ p1))) then bif decide (List.length R2 ≤ List.length (R2 ++ p2)) && List.all (R2 ++ p2) fun r => List.all r D.keeps then bif allV (R2 ++ p2) then bif okZ (3) (List.take (List.length R2) (R2 ++ p2) ++ List.take (List.length R2 + List.length p2 - List.length R2) (List.drop (List.length R2) (R2 ++ p2))) then bif decide (List.length R3 ≤ List.length (R3 ++ p3)) && List.all (R3 ++ p3) fun r => List.all r D.keeps then bif allV (R3 ++ p3) then bif okZ (3) (List.take (List.length R3) (R3 ++ p3) ++ List.take (List.length R3 + List.length p3 - List.length R3) (List.drop (List.length R3) (R3 ++ p3))) then K (DV.tup []) else False else False else False else False else False else False else False else False else False else False else False else False) := by kernel_rfl
theorem Zq2 (K : DV → Prop) : (ZqZ [dNil] K) = (K (DV.tup [])) := by kernel_rfl
theorem ZsN : Zad Tryz.prog 72 Zei := o_of Tryz.func72 (by kernel_rfl) rfl fun ds Q h => by
  unfold Zei at h; split at h
  · rename_i R0 p0 R1 p1 R2 p2 R3 p3
    obtain ⟨h1, h2⟩ := Zag h
    simp only [Bool.and_eq_true] at h1
    obtain ⟨a0, a1, a2, a3⟩ := h1
    refine ⟨_, ZcS Zt7 mixed 200 Tryz.func72 rfl (fun b hb s hs => by cases hs) (Nat.le_of_ble_eq_true rfl) (by simp [DV.fit32, DV.width]) ?_, rfl, rfl, h2⟩
    show ZqZ _ _
    rw [ZsF]
    have kk : ∀ R p : List (List D), okZ 3 (R ++ p) = true → okZ 3 (List.take R.length (R ++ p) ++ List.take (R.length + p.length - R.length) (List.drop R.length (R ++ p))) = true := fun R p h => by
      have : List.take R.length (R ++ p) ++ List.take (R.length + p.length - R.length) (List.drop R.length (R ++ p)) = R ++ p := by simp
      rw [this]; exact h
    have le : ∀ R p : List (List D), R.length ≤ (R ++ p).length := fun R p => by simp
    simp only [kk _ _ a0, kk _ _ a1, kk _ _ a2, kk _ _ a3, le, Zab a0, Zab a1, Zab a2, Zab a3, Zao (Zab a0), Zao (Zab a1), Zao (Zab a2), Zao (Zab a3), decide_true, Bool.and_self, cond_true]
  · refine ⟨_, ZcS Zt7 mixed 200 Tryz.func72 rfl (fun b hb s hs => by cases hs) (Nat.le_of_ble_eq_true rfl) rfl ?_, rfl, rfl, h⟩
    show ZqZ _ _
    rw [Zq2]
  · exact h.elim
end

section
open Go Go.Proofs
theorem ZrD {α : Type} (l : List α) (p : α → Bool) : decide ((match l.findIdx? p with | some i => (i : Int) | none => -1) ≥ 0) = l.any p := by
  cases h : l.findIdx? p with
  | some i =>
    have : l.any p = true := by
      rw [List.findIdx?_eq_some_iff_getElem] at h
      obtain ⟨h1, h2, _⟩ := h
      exact List.any_eq_true.2 ⟨_, List.getElem_mem h1, h2⟩
    rw [this]; simp
  | none =>
    have : l.any p = false := by
      rw [List.findIdx?_eq_none_iff] at h
      rw [List.any_eq_false]; intro x hx; simpa using h x hx
    rw [this]; rfl
def ix4 (x : Int) : Bool := upto x 0 3
theorem eIdx (x : Int) (K : DV → Prop) : (ask Tryz.prog [] Tryz.f153 [I x] K) = (bif decide (x ≥ 0) then K (DV.c (D.v (Value.bool (decide (x < 4))))) else K (DV.c (D.v (Value.bool false)))) := by kernel_rfl
theorem oIdx : Zad Tryz.prog 153 (sB ix4) := oB Tryz.func153 (by kernel_rfl) rfl fun x => Zak .nil mixed Tryz.func153 rfl rfl rfl (by
  rw [eIdx]; unfold ix4 upto; rw [lt4]; cases decide (x ≥ 0) <;> rfl)
def askE (k : Nat) (fn : Func) (args : List DV) (K : DV → Prop) : Prop := evp Tryz.prog (hkl [] []) 200 (Zav fn) (finF Tryz.prog fn k K) (Zb6 fn.ntmps args)
theorem eOf (a b c : Int) (K : DV → Prop) : (askE 2 Tryz.f155 [.agg [vi a, vi b, vi c]] K) = (K (DV.c (D.f (186) [] [D.p (0) [D.v (Value.int IntKind.i64 a), D.v (Value.int IntKind.i64 b), D.v (Value.int IntKind.i64 c)] (0)]))) := by kernel_rfl
def sOf : Spec := fun ds Q => match ds with | [.agg [.v (.int .i64 a), .v (.int .i64 b), .v (.int .i64 c)]] => Q (.c (.f 186 [] [.p 0 [vI a, vI b, vI c] 0])) | _ => False
theorem oOf : Zad Tryz.prog 155 sOf := ZwM Tryz.func155 (by kernel_rfl) rfl fun ds Q h => by
  unfold sOf at h; split at h
  · rename_i a b c
    refine ⟨_, Zoe (H := hkl [] []) 2 (ZaJ .nil) mixed 200 Tryz.func155 rfl (Zae rfl) (Nat.le_of_ble_eq_true rfl) rfl ?_, rfl, rfl, h⟩
    have e := eOf a b c (fun r => r = .c (.f 186 [] [.p 0 [vI a, vI b, vI c] 0]))
    exact e.mpr rfl
  · exact h.elim
theorem eOf1 (a b c x y z : Int) (K : DV → Prop) : (ask Tryz.prog [] Tryz.f186 [.agg [vi x, vi y, vi z], .c (.p 0 [vI a, vI b, vI c] 0)] K) = (bif x == a then K (DV.c (D.v (Value.bool (y == b)))) else K (DV.c (D.v (Value.bool false)))) := by kernel_rfl
def Zcw (a b c : Int) (r : List Int) : Bool := bif r.getD 0 0 == a then r.getD 1 0 == b else false
def sOf1 : Spec := fun ds Q => match ds with | [.agg [.v (.int .i64 x), .v (.int .i64 y), .v (.int .i64 z)], .c (.p 0 [.v (.int .i64 a), .v (.int .i64 b), .v (.int .i64 c)] 0)] => Q (B (Zcw a b c [x, y, z])) | _ => False
theorem oOf1 : Zad Tryz.prog 186 sOf1 := o_of Tryz.func186 (by kernel_rfl) rfl fun ds Q h => by
  unfold sOf1 at h; split at h
  · rename_i x y z a b c
    refine ⟨_, Zak .nil mixed Tryz.func186 rfl rfl rfl ?_, rfl, rfl, h⟩
    rw [eOf1]; unfold Zcw; simp only [List.getD_cons_zero, List.getD_cons_succ]; cases x == a <;> rfl
  · exact h.elim
def sIXR (a : Int) (b : Int) (c : Int) (R : List (List D)) (sp : List (List D)) (v : Int) (i : Int) : X := ⟨mkT 19 [(0, aS 3 R sp), (1, .c (.d (.f 186 [] [.p 0 [vI a, vI b, vI c] 0]))), (4, ai v), (7, ai R.length), (8, ai i)], [], [], []⟩
def Zic (a : Int) (b : Int) (c : Int) (R : List (List D)) (sp : List (List D)) : Vw := fun y K => wI y 4 fun v => wI y 8 fun i => K (sIXR a b c R sp v i)
theorem ZkP (a : Int) (b : Int) (c : Int) (R : List (List D)) (sp : List (List D)) : VwOK (Zic a b c R sp) := fun y K h => by
  unfold Zic at h
  obtain ⟨v, h⟩ := Za7 h
  obtain ⟨i, h⟩ := Za7 h
  exact ⟨_, h⟩
theorem rIXR (a : Int) (b : Int) (c : Int) (R sp : List (List D)) (i v : Int) (N : X → Prop) (E : Exit → X → Prop) : (ZcC Tryz.prog (hkA band bor [(186, sOf1)] []) Tryz.f185 0 [] [0, 1, 4, 7, 8] [] (Zic a b c R sp) (Zic a b c R sp) N E (sIXR a b c R sp v i)) = (bif decide (i < @Nat.cast Int _ (List.length R)) then bif decide (0 ≤ i) && decide (i < @Nat.cast Int _ (List.length R)) then bif isJ [IntKind.i64, IntKind.i64, IntKind.i64] (List.drop (0) (List.getD R (Int.toNat i) [])) then bif Zcw a b c [hdJ (List.drop (0) (List.getD R (Int.toNat i) [])), hdJ (List.tail (List.drop (0) (List.getD R (Int.toNat i) []))), hdJ (List.tail (List.tail (List.drop (0) (List.getD R (Int.toNat i) []))))] then sIXR a b c R sp i i = sIXR a b c R sp i i ∧ E Exit.ret (sIXR a b c R sp i i) else sIXR a b c R sp v (IntKind.wrap IntKind.i64 (i + 1)) = sIXR a b c R sp v (IntKind.wrap IntKind.i64 (i + 1)) ∧ N (sIXR a b c R sp v (IntKind.wrap IntKind.i64 (i + 1))) else False else False else sIXR a b c R sp v i = sIXR a b c R sp v i ∧ E (Exit.exit (0)) (sIXR a b c R sp v i)) := by kernel_rfl
def fIXR (a : Int) (b : Int) (c : Int) (l : List (List Int)) (sp : List (List D)) : LSum := Zde [0, 1, 4, 7, 8] [] (fun i => sIXR a b c (mZ l) sp 0 i) (fun i => sIXR a b c (mZ l) sp i i) l.length (fun i => Zcw a b c (l.getD i [])) .ret (.exit 0)
theorem eIXR (a : Int) (b : Int) (c : Int) (l : List (List Int)) (sp : List (List D)) (K : DV → Prop) : (askL Tryz.prog [] [(2, fIXR a b c l sp)] Tryz.f185 [dS 3 (mZ l) sp, .c (.f 186 [] [.p 0 [vI a, vI b, vI c] 0])] K) = (sIXR a b c (mZ l) sp (0) (0) = sIXR a b c (mZ l) sp (0) (0) ∧ (∀ (i : Nat), firstAt (fun i => Zcw a b c (List.getD l i [])) (List.length l) i → K (DV.c (D.v (Value.int IntKind.i64 (@Nat.cast Int _ i))))) ∧ (noneTo (fun i => Zcw a b c (List.getD l i [])) (List.length l) → K (DV.c (D.v (Value.int IntKind.i64 (-1)))))) := by kernel_rfl
theorem kIXR (a : Int) (b : Int) (c : Int) {l : List (List Int)} {sp : List (List D)} (hw : wid 3 l) (hn : l.length ≤ 9223372036854775807) (Q : Exit → X → Prop) (x : X) (h : fIXR a b c l sp Q x) : XWP Tryz.prog (.loop (Zal Tryz.f185 0)) Q x := by
  refine Zcd (H := hkA band bor [(186, sOf1)] []) (sw := []) (V := Zic a b c (mZ l) sp) (VE := Zic a b c (mZ l) sp) (ZaJ (.cons oOf1 .nil)) mixed (Zae rfl) (ZkP a b c (mZ l) sp) (ZkP a b c (mZ l) sp) _ _ _ _ _ _ (fun i hl N E h1 h2 => ?_) (fun N E h1 => ?_) Q x h
  · rw [rIXR]
    have wi : IntKind.wrap .i64 ((i : Int) + 1) = ((i + 1 : Nat) : Int) := Zaj (n := 1) (by omega)
    have hj1 : isJ [IntKind.i64, IntKind.i64, IntKind.i64] ((mZ l).getD i []) = true := Zau (j := 0) (n := 3) hw hl (by omega)
    simp only [Zai, Int.ofNat_lt, hl, decide_true, cond_true, Int.natCast_nonneg, Bool.and_self, Int.toNat_natCast, ZaV, ZaT, Zbn, hj1, List.drop_zero, ZaF, true_and, wi]
    have e : Zcw a b c (l.getD i []) = Zcw a b c [(l.getD i []).getD 0 0, (l.getD i []).getD 1 0, (l.getD i []).getD 2 0] := rfl
    cases ho : Zcw a b c (l.getD i []) with
    | false => rw [e] at ho; rw [ho]; exact h2 (by rw [e]; exact ho)
    | true => rw [e] at ho; rw [ho]; exact h1 (by rw [e]; exact ho)
  · rw [rIXR]
    simp only [Zai, Int.ofNat_lt, Nat.lt_irrefl, decide_false, cond_false, true_and]
    exact h1
def sIxR : Spec := fun ds Q => match ds with | [.c (.s 0 3 R sp), .c (.f 186 [] [.p 0 [.v (.int .i64 a), .v (.int .i64 b), .v (.int .i64 c)] 0])] => cond (okZ 3 R) (Q (I (match (toZ R).findIdx? (Zcw a b c) with | some i => (i : Int) | none => -1))) False | _ => False
theorem oIxR : Zad Tryz.prog 185 sIxR := o_of Tryz.func185 (by kernel_rfl) rfl fun ds Q h => by
  unfold sIxR at h; split at h
  · rename_i R sp a b c
    obtain ⟨h1, h2⟩ := Zag h
    obtain ⟨e1, w1, n1⟩ := Zah h1
    rw [e1]
    rw [← Zan R] at n1
    generalize toZ R = l at *
    refine ⟨_, ZaB (l := []) (m := [(2, fIXR a b c l sp)]) .nil mixed (Za9 rfl (by kernel_rfl) (kIXR a b c w1 n1)) Tryz.func185 rfl rfl rfl ?_, rfl, rfl, h2⟩
    rw [eIXR]
    refine ⟨rfl, fun i hi => ?_, fun hn => ?_⟩
    · rw [hi.find]
    · rw [hn.find]
  · exact h.elim
theorem eCOR (a : Int) (b : Int) (c : Int) (R sp : List (List D)) (K : DV → Prop) : (ask Tryz.prog [(185, sIxR)] Tryz.f154 [dS 3 R sp, .c (.f 186 [] [.p 0 [vI a, vI b, vI c] 0])] K) = (bif okZ (3) R then K (DV.c (D.v (Value.bool (decide ((match List.findIdx? (Zcw a b c) (toZ R) with | some i => @Nat.cast Int _ i | none => -1) ≥ 0))))) else False) := by kernel_rfl
def sCoR : Spec := fun ds Q => match ds with | [.c (.s 0 3 R sp), .c (.f 186 [] [.p 0 [.v (.int .i64 a), .v (.int .i64 b), .v (.int .i64 c)] 0])] => cond (okZ 3 R) (Q (B ((toZ R).any (Zcw a b c)))) False | _ => False
theorem oCoR : Zad Tryz.prog 154 sCoR := o_of Tryz.func154 (by kernel_rfl) rfl fun ds Q h => by
  unfold sCoR at h; split at h
  · obtain ⟨h1, h2⟩ := Zag h
    refine ⟨_, Zak (.cons oIxR .nil) mixed Tryz.func154 rfl rfl rfl ?_, rfl, rfl, h2⟩
    rw [eCOR, h1, ZrD]; rfl
  · exact h.elim
def ok1 (a b c : Int) : Bool := bif lab a then bif ix4 b then clk c else false else false
theorem eWN (x y : Int) (K : DV → Prop) : (ask Tryz.prog [(71, sB lab), (119, sUp)] Tryz.f166 [I x, I y] K) = (bif lab x then K (DV.c (D.v (Value.bool (decide (y ≥ 0) && decide (y ≤ 3))))) else K (DV.c (D.v (Value.bool false)))) := by kernel_rfl
def wnm (x y : Int) : Bool := bif lab x then ix4 y else false
def sWN : Spec := fun ds Q => match ds with | [.c (.v (.int .i64 x)), .c (.v (.int .i64 y))] => Q (B (wnm x y)) | _ => False
theorem oWN : Zad Tryz.prog 166 sWN := o_of Tryz.func166 (by kernel_rfl) rfl fun ds Q h => by
  unfold sWN at h; split at h
  · rename_i x y
    refine ⟨_, Zak (.cons Zok (.cons oUp .nil)) mixed Tryz.func166 rfl rfl rfl ?_, rfl, rfl, h⟩
    rw [eWN]; unfold wnm ix4 upto; cases lab x <;> rfl
  · exact h.elim
end

section
open Go Go.Proofs
def badR (l : List (List Int)) (i : Nat) : Bool := !ok1 ((l.getD i []).getD 0 0) ((l.getD i []).getD 1 0) ((l.getD i []).getD 2 0) || (l.take i).any (Zcw ((l.getD i []).getD 0 0) ((l.getD i []).getD 1 0) ((l.getD i []).getD 2 0))
def rmay (l : List (List Int)) : Bool := decide (l.length ≤ 16) && !(List.range l.length).any (badR l)
theorem Zqr (R sp : List (List D)) {i : Nat} (hi : i ≤ R.length) : cut (R ++ sp) 0 i = R.take i := by
  simp [cut, List.take_append_of_le_length hi]
theorem Zsm {l : List (List Int)} {p : List Int → Bool} {i k : Nat} (hi : i ≤ l.length) (h : firstAt (fun j => p (l.getD j [])) i k) : (l.take i).any p = true := by
  refine firstAt.any (d := []) (i := k) ⟨by rw [List.length_take]; have := h.1; omega, ?_, fun j hj => ?_⟩
  · show p ((l.take i).getD k []) = true
    have := h.1
    rw [show (l.take i).getD k [] = l.getD k [] by simp [List.getD_eq_getElem?_getD, List.getElem?_take, this]]; exact h.2.1
  · show p ((l.take i).getD j []) = false
    have := h.1
    rw [show (l.take i).getD j [] = l.getD j [] by simp [List.getD_eq_getElem?_getD, List.getElem?_take, Nat.lt_trans hj this]]; exact h.2.2 j hj
theorem Zre {l : List (List Int)} {p : List Int → Bool} {i : Nat} (hi : i ≤ l.length) (h : noneTo (fun j => p (l.getD j [])) i) : (l.take i).any p = false := by
  refine noneTo.any (d := []) fun j hj => ?_
  have hj : j < i := by rw [List.length_take] at hj; omega
  show p ((l.take i).getD j []) = false
  rw [show (l.take i).getD j [] = l.getD j [] by simp [List.getD_eq_getElem?_getD, List.getElem?_take, hj]]; exact h j hj
theorem ZsS {P : Program} {l : List (FuncId × Spec)} {fn : Func} {k : Nat} {s : LSum} (hn : (Zbd (Zav fn)).length = 2) (hk : ZbI (Zal fn 0) = k) (hk1 : (hkl l [(k, s)]).loop (ZbI (Zal fn 1)) = none) (h : ∀ Q x, s Q x → XWP P (.loop (Zal fn 0)) Q x) : Zaz P (hkl l [(k, s)]) (Zav fn) :=
  Zc9 2 hn fun i hi s' hs Q x hq => by
    match i, hi with
    | 1, _ => rw [hk1] at hs; cases hs
    | 0, _ =>
      rw [hk] at hs
      have hs' : some s = some s' := by simpa [Zdu, hkl, hkA, Zbm] using hs
      cases hs'
      exact h Q x hq
def stRM (R : List (List D)) (sp : List (List D)) (v : Bool) (i : Int) : X := ⟨mkT 40 [(0, aS 3 R sp), (2, ab v), (8, aS 3 R sp), (9, ai R.length), (10, ai i)], [], [], []⟩
def Zh7 (R : List (List D)) (sp : List (List D)) : Vw := fun y K => wB y 2 fun v => wI y 10 fun i => K (stRM R sp v i)
theorem Zkk (R : List (List D)) (sp : List (List D)) : VwOK (Zh7 R sp) := fun y K h => by
  unfold Zh7 at h
  obtain ⟨v, h⟩ := ZdM h
  obtain ⟨i, h⟩ := Za7 h
  exact ⟨_, h⟩
theorem rRM (R sp : List (List D)) (v : Bool) (i : Int) (N : X → Prop) (E : Exit → X → Prop) : (ZcC Tryz.prog (hkA band bor [(64, sB lab), (153, sB ix4), (102, sB clk), (155, sOf), (154, sCoR)] []) Tryz.f105 0 [] [0, 2, 8, 9, 10] [] (Zh7 R sp) (Zh7 R sp) N E (stRM R sp v i)) = (bif decide (i < @Nat.cast Int _ (List.length R)) then bif decide (0 ≤ i) && decide (i < @Nat.cast Int _ (List.length R)) then bif isJ [IntKind.i64, IntKind.i64, IntKind.i64] (List.drop (0) (List.getD R (Int.toNat i) [])) then bif !lab (hdJ (List.drop (0) (List.getD R (Int.toNat i) []))) then stRM R sp false i = stRM R sp false i ∧ E Exit.ret (stRM R sp false i) else bif !ix4 (hdJ (List.tail (List.drop (0) (List.getD R (Int.toNat i) [])))) then stRM R sp false i = stRM R sp false i ∧ E Exit.ret (stRM R sp false i) else bif !clk (hdJ (List.tail (List.tail (List.drop (0) (List.getD R (Int.toNat i) []))))) then stRM R sp false i = stRM R sp false i ∧ E Exit.ret (stRM R sp false i) else bif true && (decide (0 ≤ i) && decide (i ≤ @Nat.cast Int _ (List.length R + List.length sp))) then bif okZ (3) (cut (R ++ sp) (0) (Int.toNat i - 0)) then bif List.any (toZ (cut (R ++ sp) (0) (Int.toNat i - 0))) (Zcw (hdJ (List.drop (0) (List.getD R (Int.toNat i) []))) (hdJ (List.tail (List.drop (0) (List.getD R (Int.toNat i) [])))) (hdJ (List.tail (List.tail (List.drop (0) (List.getD R (Int.toNat i) [])))))) then stRM R sp false i = stRM R sp false i ∧ E Exit.ret (stRM R sp false i) else stRM R sp v (IntKind.wrap IntKind.i64 (i + 1)) = stRM R sp v (IntKind.wrap IntKind.i64 (i + 1)) ∧ N (stRM R sp v (IntKind.wrap IntKind.i64 (i + 1))) else False else False else False else False else stRM R sp v i = stRM R sp v i ∧ E (Exit.exit (0)) (stRM R sp v i)) := by kernel_rfl
def fRM (l : List (List Int)) (sp : List (List D)) : LSum := Zde [0, 2, 8, 9, 10] [] (fun i => stRM (mZ l) sp false i) (fun i => stRM (mZ l) sp false i) l.length (badR l) .ret (.exit 0)
theorem kRM {l : List (List Int)} {sp : List (List D)} (hw : wid 3 l) (hn : l.length ≤ 9223372036854775807) (Q : Exit → X → Prop) (x : X) (h : fRM l sp Q x) : XWP Tryz.prog (.loop (Zal Tryz.f105 0)) Q x := by
  refine Zcd (H := hkA band bor [(64, sB lab), (153, sB ix4), (102, sB clk), (155, sOf), (154, sCoR)] []) (sw := []) (V := Zh7 (mZ l) sp) (VE := Zh7 (mZ l) sp) (ZaJ (.cons oLab (.cons oIdx (.cons oClk (.cons oOf (.cons oCoR .nil)))))) mixed (Zae rfl) (Zkk (mZ l) sp) (Zkk (mZ l) sp) _ _ _ _ _ _ (fun i hl N E h1 h2 => ?_) (fun N E h1 => ?_) Q x h
  · rw [rRM]
    have wi : IntKind.wrap .i64 ((i : Int) + 1) = ((i + 1 : Nat) : Int) := Zaj (n := 1) (by omega)
    have hj1 : isJ [IntKind.i64, IntKind.i64, IntKind.i64] ((mZ l).getD i []) = true := Zau (j := 0) (n := 3) hw hl (by omega)
    have hc : cut (mZ l ++ sp) 0 i = mZ (l.take i) := by rw [Zqr _ _ (by rw [Zai]; omega), Zs8]
    have ho : okZ 3 (mZ (l.take i)) = true := ZrP (ZrH hw i) (by simp; omega)
    have hb : decide ((i : Int) ≤ ((l.length + sp.length : Nat) : Int)) = true := by simp; omega
    simp only [Zai, Int.ofNat_lt, hl, decide_true, cond_true, Int.natCast_nonneg, Bool.and_self, Int.toNat_natCast, ZaV, ZaT, hj1, List.drop_zero, ZaF, true_and, wi, Nat.sub_zero, hc, ho, hb, ZfO]
    unfold badR ok1 at h1 h2
    revert h1 h2
    generalize lab ((l.getD i []).getD 0 0) = p1
    generalize ix4 ((l.getD i []).getD 1 0) = p2
    generalize clk ((l.getD i []).getD 2 0) = p3
    generalize (l.take i).any (Zcw ((l.getD i []).getD 0 0) ((l.getD i []).getD 1 0) ((l.getD i []).getD 2 0)) = p4
    cases p1 <;> cases p2 <;> cases p3 <;> cases p4 <;> intro h1 h2 <;> first | exact h1 rfl | exact h2 rfl
  · rw [rRM]
    simp only [Zai, Int.ofNat_lt, Nat.lt_irrefl, decide_false, cond_false, true_and]
    exact h1
theorem eRM (l : List (List Int)) (sp : List (List D)) (K : DV → Prop) : (askL Tryz.prog [] [(4, fRM l sp)] Tryz.f105 [dS 3 (mZ l) sp] K) = (bif decide (@Nat.cast Int _ (List.length (mZ l)) > 16) then K (DV.c (D.v (Value.bool false))) else stRM (mZ l) sp false (0) = stRM (mZ l) sp false (0) ∧ (∀ (i : Nat), firstAt (badR l) (List.length l) i → K (DV.c (D.v (Value.bool false)))) ∧ (noneTo (badR l) (List.length l) → K (DV.c (D.v (Value.bool true))))) := by kernel_rfl
def sRM : Spec := fun ds Q => match ds with | [.c (.s 0 3 R sp)] => cond (okZ 3 R) (Q (B (rmay (toZ R)))) False | _ => False
theorem oRM : Zad Tryz.prog 105 sRM := o_of Tryz.func105 (by kernel_rfl) rfl fun ds Q h => by
  unfold sRM at h; split at h
  · rename_i R sp
    obtain ⟨h1, h2⟩ := Zag h
    obtain ⟨e1, w1, n1⟩ := Zah h1
    rw [e1]
    rw [← Zan R] at n1
    generalize toZ R = l at *
    refine ⟨_, ZaB (l := []) (m := [(4, fRM l sp)]) .nil mixed (Za9 rfl (by kernel_rfl) (kRM w1 n1)) Tryz.func105 rfl rfl rfl ?_, rfl, rfl, h2⟩
    rw [eRM]
    have hg : decide (((mZ l).length : Int) > 16) = !decide (l.length ≤ 16) := by rw [Zai]; by_cases h : l.length ≤ 16 <;> simp [h] <;> omega
    rw [hg]
    cases hd : decide (l.length ≤ 16) with
    | false => simp [rmay, hd]
    | true =>
      simp only [Bool.not_true, cond_false]
      refine ⟨by trivial, fun i hi => ?_, fun hn => ?_⟩
      · rw [rmay, hi.b]; simp
      · rw [rmay, hn.b, hd]; rfl
  · exact h.elim
def stQM (R : List (List D)) (sp : List (List D)) (v : Bool) (i : Int) : X := ⟨mkT 64 [(0, aS 3 R sp), (2, ab v), (3, ai i)], [], [], []⟩
def ZhD (R : List (List D)) (sp : List (List D)) : Vw := fun y K => wB y 2 fun v => wI y 3 fun i => K (stQM R sp v i)
theorem Zjb (R : List (List D)) (sp : List (List D)) : VwOK (ZhD R sp) := fun y K h => by
  unfold ZhD at h
  obtain ⟨v, h⟩ := ZdM h
  obtain ⟨i, h⟩ := Za7 h
  exact ⟨_, h⟩
def stQN (R : List (List D)) (sp : List (List D)) (i : Int) (v : Bool) (j : Int) : X := ⟨mkT 64 [(0, aS 3 R sp), (2, ab v), (3, ai i), (4, ai j)], [], [], []⟩
def Zhx (R : List (List D)) (sp : List (List D)) (i : Int) : Vw := fun y K => wB y 2 fun v => wI y 4 fun j => K (stQN R sp i v j)
theorem ZjO (R : List (List D)) (sp : List (List D)) (i : Int) : VwOK (Zhx R sp i) := fun y K h => by
  unfold Zhx at h
  obtain ⟨v, h⟩ := ZdM h
  obtain ⟨j, h⟩ := Za7 h
  exact ⟨_, h⟩
theorem rQN (R sp : List (List D)) (i : Int) (v : Bool) (j : Int) (N : X → Prop) (E : Exit → X → Prop) : (ZcC Tryz.prog (hkA band bor [] []) Tryz.f122 1 [] [0, 2, 3, 4] [] (Zhx R sp i) (Zhx R sp i) N E (stQN R sp i v j)) = (bif decide (j < i) then bif decide (0 ≤ j) && decide (j < @Nat.cast Int _ (List.length R)) then bif isJ [IntKind.i64] (List.drop (0) (List.getD R (Int.toNat j) [])) then bif decide (0 ≤ i) && decide (i < @Nat.cast Int _ (List.length R)) then bif isJ [IntKind.i64] (List.drop (0) (List.getD R (Int.toNat i) [])) then bif hdJ (List.drop (0) (List.getD R (Int.toNat j) [])) == hdJ (List.drop (0) (List.getD R (Int.toNat i) [])) then bif decide (0 ≤ j) && decide (j < @Nat.cast Int _ (List.length R)) then bif isJ [IntKind.i64] (List.drop (1) (List.getD R (Int.toNat j) [])) then bif decide (0 ≤ i) && decide (i < @Nat.cast Int _ (List.length R)) then bif isJ [IntKind.i64] (List.drop (1) (List.getD R (Int.toNat i) [])) then bif hdJ (List.drop (1) (List.getD R (Int.toNat j) [])) == hdJ (List.drop (1) (List.getD R (Int.toNat i) [])) then stQN R sp i false j = stQN R sp i false j ∧ E Exit.ret (stQN R sp i false j) else stQN R sp i v (IntKind.wrap IntKind.i64 (j + 1)) = stQN R sp i v (IntKind.wrap IntKind.i64 (j + 1)) ∧ N (stQN R sp i v (IntKind.wrap IntKind.i64 (j + 1))) else False else False else False else False else stQN R sp i v (IntKind.wrap IntKind.i64 (j + 1)) = stQN R sp i v (IntKind.wrap IntKind.i64 (j + 1)) ∧ N (stQN R sp i v (IntKind.wrap IntKind.i64 (j + 1))) else False else False else False else False else stQN R sp i v j = stQN R sp i v j ∧ E (Exit.exit (2)) (stQN R sp i v j)) := by kernel_rfl
def fQN (l : List (List Int)) (sp : List (List D)) (i : Nat) : LSum := fun Q x => cond (decide (i < l.length)) (Zde [0, 2, 3, 4] [] (fun j => stQN (mZ l) sp i false j) (fun j => stQN (mZ l) sp i false j) i (fun j => Zcw ((l.getD i []).getD 0 0) ((l.getD i []).getD 1 0) ((l.getD i []).getD 2 0) (l.getD j [])) .ret (.exit 2) Q x) False
theorem kQN {l : List (List Int)} {sp : List (List D)} (hw : wid 3 l) (hn : l.length ≤ 9223372036854775807) {i : Nat} (Q : Exit → X → Prop) (x : X) (h : fQN l sp i Q x) : XWP Tryz.prog (.loop (Zal Tryz.f122 1)) Q x := by
  obtain ⟨hi, h⟩ := Zag h
  have hi := of_decide_eq_true hi
  refine Zcd (H := hkA band bor [] []) (sw := []) (V := Zhx (mZ l) sp i) (VE := Zhx (mZ l) sp i) (ZaJ .nil) mixed (Zae rfl) (ZjO (mZ l) sp i) (ZjO (mZ l) sp i) _ _ _ _ _ _ (fun j hl N E h1 h2 => ?_) (fun N E h1 => ?_) Q x h
  · rw [rQN]
    have wi : IntKind.wrap .i64 ((j : Int) + 1) = ((j + 1 : Nat) : Int) := Zaj (n := 1) (by omega)
    have hjl : j < l.length := by omega
    have a1 : isJ [IntKind.i64] ((mZ l).getD i []) = true := Zau (j := 0) (n := 1) hw hi (by omega)
    have a2 : isJ [IntKind.i64] (List.drop 1 ((mZ l).getD i [])) = true := Zau (j := 1) (n := 1) hw hi (by omega)
    have b1 : isJ [IntKind.i64] ((mZ l).getD j []) = true := Zau (j := 0) (n := 1) hw hjl (by omega)
    have b2 : isJ [IntKind.i64] (List.drop 1 ((mZ l).getD j [])) = true := Zau (j := 1) (n := 1) hw hjl (by omega)
    simp only [Zai, Int.ofNat_lt, hl, hi, hjl, decide_true, cond_true, Int.natCast_nonneg, Bool.and_self, Int.toNat_natCast, a1, a2, b1, b2, List.drop_zero, ZaF, ZbS, true_and, wi]
    unfold Zcw at h1 h2
    revert h1 h2
    generalize ((l.getD j []).getD 0 0 == (l.getD i []).getD 0 0) = p1
    generalize ((l.getD j []).getD 1 0 == (l.getD i []).getD 1 0) = p2
    cases p1 <;> cases p2 <;> intro h1 h2 <;> first | exact h1 rfl | exact h2 rfl
  · rw [rQN]
    simp only [Zai, Int.ofNat_lt, Nat.lt_irrefl, decide_false, cond_false, true_and]
    exact h1
theorem rQM (l : List (List Int)) (sp : List (List D)) (n : Nat) (N : X → Prop) (E : Exit → X → Prop) : (ZcC Tryz.prog (hkA band bor [(166, sWN), (69, sB clk)] [(7, fQN l sp n)]) Tryz.f122 0 [] [0, 2, 3] [] (ZhD (mZ l) sp) (ZhD (mZ l) sp) N E (stQM (mZ l) sp false (n : Int))) = (bif decide (@Nat.cast Int _ n < @Nat.cast Int _ (List.length (mZ l))) then bif decide (0 ≤ @Nat.cast Int _ n) && decide (@Nat.cast Int _ n < @Nat.cast Int _ (List.length (mZ l))) then bif isJ [IntKind.i64] (List.drop (0) (List.getD (mZ l) (Int.toNat (@Nat.cast Int _ n)) [])) then bif decide (0 ≤ @Nat.cast Int _ n) && decide (@Nat.cast Int _ n < @Nat.cast Int _ (List.length (mZ l))) then bif isJ [IntKind.i64] (List.drop (1) (List.getD (mZ l) (Int.toNat (@Nat.cast Int _ n)) [])) then bif !wnm (hdJ (List.drop (0) (List.getD (mZ l) (Int.toNat (@Nat.cast Int _ n)) []))) (hdJ (List.drop (1) (List.getD (mZ l) (Int.toNat (@Nat.cast Int _ n)) []))) then stQM (mZ l) sp false (@Nat.cast Int _ n) = stQM (mZ l) sp false (@Nat.cast Int _ n) ∧ E Exit.ret (stQM (mZ l) sp false (@Nat.cast Int _ n)) else bif decide (0 ≤ @Nat.cast Int _ n) && decide (@Nat.cast Int _ n < @Nat.cast Int _ (List.length (mZ l))) then bif isJ [IntKind.i64] (List.drop (2) (List.getD (mZ l) (Int.toNat (@Nat.cast Int _ n)) [])) then bif !clk (hdJ (List.drop (2) (List.getD (mZ l) (Int.toNat (@Nat.cast Int _ n)) []))) then stQM (mZ l) sp false (@Nat.cast Int _ n) = stQM (mZ l) sp false (@Nat.cast Int _ n) ∧ E Exit.ret (stQM (mZ l) sp false (@Nat.cast Int _ n)) else bif decide (n < List.length l) then stQN (mZ l) sp (@Nat.cast Int _ n) false (0) = stQN (mZ l) sp (@Nat.cast Int _ n) false (0) ∧ (∀ (i : Nat), firstAt (fun j => Zcw (List.getD (List.getD l n []) (0) (0)) (List.getD (List.getD l n []) (1) (0)) (List.getD (List.getD l n []) (2) (0)) (List.getD l j [])) n i → stQM (mZ l) sp false (@Nat.cast Int _ n) = stQM (mZ l) sp false (@Nat.cast Int _ n) ∧ E Exit.ret (stQM (mZ l) sp false (@Nat.cast Int _ n))) ∧ (noneTo (fun j => Zcw (List.getD (List.getD l n []) (0) (0)) (List.getD (List.getD l n []) (1) (0)) (List.getD (List.getD l n []) (2) (0)) (List.getD l j [])) n → stQM (mZ l) sp false (IntKind.wrap IntKind.i64 (@Nat.cast Int _ n + 1)) = stQM (mZ l) sp false (IntKind.wrap IntKind.i64 (@Nat.cast Int _ n + 1)) ∧ N (stQM (mZ l) sp false (IntKind.wrap IntKind.i64 (@Nat.cast Int _ n + 1)))) else False else False else False else False else False else False else False else stQM (mZ l) sp false (@Nat.cast Int _ n) = stQM (mZ l) sp false (@Nat.cast Int _ n) ∧ E (Exit.exit (0)) (stQM (mZ l) sp false (@Nat.cast Int _ n))) := by kernel_rfl
def fQM (l : List (List Int)) (sp : List (List D)) : LSum := Zde [0, 2, 3] [] (fun i => stQM (mZ l) sp false i) (fun i => stQM (mZ l) sp false i) l.length (badR l) .ret (.exit 0)
theorem Zr9 {l : List (List Int)} {sp : List (List D)} {n : Nat} (h : ∀ Q x, fQN l sp n Q x → XWP Tryz.prog (.loop (Zal Tryz.f122 1)) Q x) (L : List (FuncId × Spec)) : Zaz Tryz.prog (hkA band bor L [(7, fQN l sp n)]) (Zal Tryz.f122 0) := fun b hb s hs Q x hq => by
  have e : Zbd (Zal Tryz.f122 0) = [Zal Tryz.f122 1] := by kernel_rfl
  rw [e] at hb
  have hb := List.mem_singleton.1 hb
  subst hb
  have e2 : ZbI (Zal Tryz.f122 1) = 7 := by kernel_rfl
  rw [e2] at hs
  have hs' : some (fQN l sp n) = some s := by simpa [Zdu, hkl, hkA, Zbm] using hs
  cases hs'
  exact h Q x hq
theorem kQM {l : List (List Int)} {sp : List (List D)} (hw : wid 3 l) (hn : l.length ≤ 9223372036854775807) (Q : Exit → X → Prop) (x : X) (h : fQM l sp Q x) : XWP Tryz.prog (.loop (Zal Tryz.f122 0)) Q x := by
  refine Zjp (sw := []) (V := ZhD (mZ l) sp) (VE := ZhD (mZ l) sp) mixed (Zjb (mZ l) sp) (Zjb (mZ l) sp) _ _ _ _ _ _ (fun i hl => ⟨_, ZaJ (.cons oWN (.cons Zhq .nil)), Zr9 (sp := sp) (n := i) (kQN hw hn) _, fun N E h1 h2 => ?_⟩) ⟨_, ZaJ (.cons oWN (.cons Zhq .nil)), Zr9 (sp := sp) (n := l.length) (kQN hw hn) _, fun N E h1 => ?_⟩ Q x h
  · rw [rQM]
    have wi : IntKind.wrap .i64 ((i : Int) + 1) = ((i + 1 : Nat) : Int) := Zaj (n := 1) (by omega)
    have a1 : isJ [IntKind.i64] ((mZ l).getD i []) = true := Zau (j := 0) (n := 1) hw hl (by omega)
    have a2 : isJ [IntKind.i64] (List.drop 1 ((mZ l).getD i [])) = true := Zau (j := 1) (n := 1) hw hl (by omega)
    have a3 : isJ [IntKind.i64] (List.drop 2 ((mZ l).getD i [])) = true := Zau (j := 2) (n := 1) hw hl (by omega)
    simp only [Zai, Int.ofNat_lt, hl, decide_true, cond_true, Int.natCast_nonneg, Bool.and_self, Int.toNat_natCast, a1, a2, a3, List.drop_zero, ZaF, ZbS, true_and, wi]
    unfold badR ok1 at h1 h2
    unfold wnm
    have ha : ∀ i', firstAt (fun j => Zcw ((l.getD i []).getD 0 0) ((l.getD i []).getD 1 0) ((l.getD i []).getD 2 0) (l.getD j [])) i i' → (l.take i).any (Zcw ((l.getD i []).getD 0 0) ((l.getD i []).getD 1 0) ((l.getD i []).getD 2 0)) = true := fun i' hi' => Zsm (by omega) hi'
    have hb : noneTo (fun j => Zcw ((l.getD i []).getD 0 0) ((l.getD i []).getD 1 0) ((l.getD i []).getD 2 0) (l.getD j [])) i → (l.take i).any (Zcw ((l.getD i []).getD 0 0) ((l.getD i []).getD 1 0) ((l.getD i []).getD 2 0)) = false := fun hi' => Zre (by omega) hi'
    revert h1 h2
    cases lab ((l.getD i []).getD 0 0) <;> cases ix4 ((l.getD i []).getD 1 0) <;> cases clk ((l.getD i []).getD 2 0) <;> intro h1 h2
    all_goals first | exact h1 rfl | exact ⟨fun i' hi' => h1 (by rw [ha i' hi']; rfl), fun hi' => h2 (by rw [hb hi']; rfl)⟩
  · rw [rQM]
    simp only [Zai, Int.ofNat_lt, Nat.lt_irrefl, decide_false, cond_false, true_and]
    exact h1
theorem eQM (l : List (List Int)) (sp : List (List D)) (K : DV → Prop) : (askL Tryz.prog [] [(2, fQM l sp)] Tryz.f122 [dS 3 (mZ l) sp] K) = (stQM (mZ l) sp false (0) = stQM (mZ l) sp false (0) ∧ (∀ (i : Nat), firstAt (badR l) (List.length l) i → K (DV.c (D.v (Value.bool false)))) ∧ (noneTo (badR l) (List.length l) → K (DV.c (D.v (Value.bool (decide (@Nat.cast Int _ (List.length (mZ l)) ≤ 16))))))) := by kernel_rfl
theorem oQM : Zad Tryz.prog 122 sRM := o_of Tryz.func122 (by kernel_rfl) rfl fun ds Q h => by
  unfold sRM at h; split at h
  · rename_i R sp
    obtain ⟨h1, h2⟩ := Zag h
    obtain ⟨e1, w1, n1⟩ := Zah h1
    rw [e1]
    rw [← Zan R] at n1
    generalize toZ R = l at *
    refine ⟨_, ZaB (l := []) (m := [(2, fQM l sp)]) .nil mixed (ZsS rfl (by kernel_rfl) (by kernel_rfl) (kQM w1 n1)) Tryz.func122 rfl rfl rfl ?_, rfl, rfl, h2⟩
    rw [eQM]
    refine ⟨by trivial, fun i hi => ?_, fun hn => ?_⟩
    · rw [rmay, hi.b]; simp
    · rw [rmay, hn.b, Zai]; by_cases hl : l.length ≤ 16 <;> simp [hl] <;> omega
  · exact h.elim
end

section
open Go Go.Proofs
def wdv (a b c d : List (List Int)) (r : List Int) : List Int := wrd (selA (r.getD 0 0) a b c d) (r.getD 1 0)
def thv (a b c d : List (List Int)) (r : List Int) : Bool := thr a.length b.length c.length d.length (r.getD 0 0) (r.getD 1 0)
def gets (a b c d l : List (List Int)) : Bool := amay a b c d && (rmay l && l.all (thv a b c d))
def gotW (a b c d l : List (List Int)) : List (List Int) := bif gets a b c d l then l.map (wdv a b c d) else []
def badC (a b c d : List (List Int)) (r : List Int) : Bool := (wdv a b c d r).getD 1 0 != r.getD 2 0
def sWo : Spec := fun ds Q => match ds with | [.c (.p 0 [.s 0 3 R0 p0, .s 0 3 R1 p1, .s 0 3 R2 p2, .s 0 3 R3 p3] 0), .c (.s 0 3 R sp)] => cond (okA R0 R1 R2 R3 && okZ 3 R) (Q (.tup [oS 3 (mZ (gotW (toZ R0) (toZ R1) (toZ R2) (toZ R3) (toZ R))) [], B (gets (toZ R0) (toZ R1) (toZ R2) (toZ R3) (toZ R))])) False | _ => False
def sRT : Spec := fun ds Q => match ds with | [.agg [.s 0 3 R0 p0, .s 0 3 R1 p1, .s 0 3 R2 p2, .s 0 3 R3 p3], .c (.s 0 3 R sp)] => cond (okA R0 R1 R2 R3 && okZ 3 R) (Q (B ((toZ R).all (thv (toZ R0) (toZ R1) (toZ R2) (toZ R3))))) False | _ => False
def stRT (R0 : List (List D)) (p0 : List (List D)) (R1 : List (List D)) (p1 : List (List D)) (R2 : List (List D)) (p2 : List (List D)) (R3 : List (List D)) (p3 : List (List D)) (R : List (List D)) (sp : List (List D)) (v : Bool) (i : Int) : X := ⟨mkT 25 [(1, aS 3 R sp), (2, .c (.rp 3 0 4 0 0)), (4, ab v), (5, ai i)], [(3, .bx 0 4 [.d (.s 0 3 R0 p0), .d (.s 0 3 R1 p1), .d (.s 0 3 R2 p2), .d (.s 0 3 R3 p3)])], [], []⟩
def ZhN (R0 : List (List D)) (p0 : List (List D)) (R1 : List (List D)) (p1 : List (List D)) (R2 : List (List D)) (p2 : List (List D)) (R3 : List (List D)) (p3 : List (List D)) (R : List (List D)) (sp : List (List D)) : Vw := fun y K => wB y 4 fun v => wI y 5 fun i => K (stRT R0 p0 R1 p1 R2 p2 R3 p3 R sp v i)
theorem ZkY (R0 : List (List D)) (p0 : List (List D)) (R1 : List (List D)) (p1 : List (List D)) (R2 : List (List D)) (p2 : List (List D)) (R3 : List (List D)) (p3 : List (List D)) (R : List (List D)) (sp : List (List D)) : VwOK (ZhN R0 p0 R1 p1 R2 p2 R3 p3 R sp) := fun y K h => by
  unfold ZhN at h
  obtain ⟨v, h⟩ := ZdM h
  obtain ⟨i, h⟩ := Za7 h
  exact ⟨_, h⟩
theorem rRT (R0 : List (List D)) (p0 : List (List D)) (R1 : List (List D)) (p1 : List (List D)) (R2 : List (List D)) (p2 : List (List D)) (R3 : List (List D)) (p3 : List (List D)) (R : List (List D)) (sp : List (List D)) (v : Bool) (i : Int) (N : X → Prop) (E : Exit → X → Prop) : (ZaX Tryz.prog (hkA band bor [(164, Zfq)] []) Tryz.f165 0 [] [1, 2, 4, 5] [3] (ZhN R0 p0 R1 p1 R2 p2 R3 p3 R sp) (fun _ => ZhN R0 p0 R1 p1 R2 p2 R3 p3 R sp) N E (stRT R0 p0 R1 p1 R2 p2 R3 p3 R sp v i)) = (bif decide (i < @Nat.cast Int _ (List.length R)) then bif decide (0 ≤ i) && decide (i < @Nat.cast Int _ (List.length R)) then bif isJ [IntKind.i64] (List.drop (0) (List.getD R (Int.toNat i) [])) then bif decide (0 ≤ i) && decide (i < @Nat.cast Int _ (List.length R)) then bif isJ [IntKind.i64] (List.drop (1) (List.getD R (Int.toNat i) [])) then bif !thr (List.length R0) (List.length R1) (List.length R2) (List.length R3) (hdJ (List.drop (0) (List.getD R (Int.toNat i) []))) (hdJ (List.drop (1) (List.getD R (Int.toNat i) []))) then stRT R0 p0 R1 p1 R2 p2 R3 p3 R sp false i = stRT R0 p0 R1 p1 R2 p2 R3 p3 R sp false i ∧ E Exit.ret (stRT R0 p0 R1 p1 R2 p2 R3 p3 R sp false i) else stRT R0 p0 R1 p1 R2 p2 R3 p3 R sp v (IntKind.wrap IntKind.i64 (i + 1)) = stRT R0 p0 R1 p1 R2 p2 R3 p3 R sp v (IntKind.wrap IntKind.i64 (i + 1)) ∧ N (stRT R0 p0 R1 p1 R2 p2 R3 p3 R sp v (IntKind.wrap IntKind.i64 (i + 1))) else False else False else False else False else stRT R0 p0 R1 p1 R2 p2 R3 p3 R sp v i = stRT R0 p0 R1 p1 R2 p2 R3 p3 R sp v i ∧ E (Exit.exit (0)) (stRT R0 p0 R1 p1 R2 p2 R3 p3 R sp v i)) := by kernel_rfl
end

section
open Go Go.Proofs
def fRT (a b c d l : List (List Int)) (sp p0 p1 p2 p3 : List (List D)) : LSum := Zde [1, 2, 4, 5] [3] (fun i => stRT (mZ a) p0 (mZ b) p1 (mZ c) p2 (mZ d) p3 (mZ l) sp false i) (fun i => stRT (mZ a) p0 (mZ b) p1 (mZ c) p2 (mZ d) p3 (mZ l) sp false i) (l.length) (fun i => !thv a b c d (l.getD i [])) .ret (.exit 0)
theorem kRT {a b c d l : List (List Int)} {sp p0 p1 p2 p3 : List (List D)} (ha : wid 3 a) (hb : wid 3 b) (hc : wid 3 c) (hd : wid 3 d) (hw : wid 3 l) (hn : l.length ≤ 9223372036854775807) (Q : Exit → X → Prop) (x : X) (h : fRT a b c d l sp p0 p1 p2 p3 Q x) : XWP Tryz.prog (.loop (Zal Tryz.f165 0)) Q x := by
  refine Zbq (sw := []) (V := ZhN (mZ a) p0 (mZ b) p1 (mZ c) p2 (mZ d) p3 (mZ l) sp) (VE := fun _ => ZhN (mZ a) p0 (mZ b) p1 (mZ c) p2 (mZ d) p3 (mZ l) sp) mixed (ZkY (mZ a) p0 (mZ b) p1 (mZ c) p2 (mZ d) p3 (mZ l) sp) (fun _ => ZkY (mZ a) p0 (mZ b) p1 (mZ c) p2 (mZ d) p3 (mZ l) sp) _ _ _ _ _ _ (fun i hl => ⟨hkA band bor [(164, Zfq)] [], ZaJ (.cons ZjR .nil), Zae rfl, fun N E h1 h2 => ?_⟩) ⟨hkA band bor [(164, Zfq)] [], ZaJ (.cons ZjR .nil), Zae rfl, fun N E h1 => ?_⟩ Q x h
  · rw [rRT]
    have wi : IntKind.wrap .i64 ((i : Int) + 1) = ((i + 1 : Nat) : Int) := Zaj (n := 1) (by omega)
    have a0 : isJ [IntKind.i64] ((mZ l).getD i []) = true := Zau (j := 0) (n := 1) hw hl (by omega)
    have a1 : isJ [IntKind.i64] (List.drop 1 ((mZ l).getD i [])) = true := Zau (j := 1) (n := 1) hw hl (by omega)
    have a2 : isJ [IntKind.i64] (List.drop 2 ((mZ l).getD i [])) = true := Zau (j := 2) (n := 1) hw hl (by omega)
    have a3 : isJ [IntKind.i64, IntKind.i64, IntKind.i64] ((mZ l).getD i []) = true := Zau (j := 0) (n := 3) hw hl (by omega)
    simp only [Zai, Int.ofNat_lt, hl, decide_true, cond_true, Int.natCast_nonneg, Bool.and_self, Int.toNat_natCast, a0, a1, a2, a3, List.drop_zero, ZaF, ZbS, ZaV, ZaT, true_and, wi]
    unfold thv at h1 h2
    cases ht : thr a.length b.length c.length d.length ((l.getD i []).getD 0 0) ((l.getD i []).getD 1 0) with
    | false => exact h1 (by rw [ht]; rfl)
    | true => exact h2 (by rw [ht]; rfl)
  · rw [rRT]
    simp only [Zai, Int.ofNat_lt, Nat.lt_irrefl, decide_false, cond_false, true_and]
    exact h1
theorem s4 {R0 R1 R2 R3 R : List (List D)} (h : (okA R0 R1 R2 R3 && okZ 3 R) = true) : (R0 = mZ (toZ R0) ∧ wid 3 (toZ R0) ∧ R1 = mZ (toZ R1) ∧ wid 3 (toZ R1) ∧ R2 = mZ (toZ R2) ∧ wid 3 (toZ R2) ∧ R3 = mZ (toZ R3) ∧ wid 3 (toZ R3)) ∧ R = mZ (toZ R) ∧ wid 3 (toZ R) ∧ (toZ R).length ≤ 9223372036854775807 := by
  rw [Bool.and_eq_true] at h
  obtain ⟨h1, h2⟩ := h
  obtain ⟨q0, q1, q2, q3⟩ := Zb1 h1
  obtain ⟨a1, a2, _⟩ := Zah q0
  obtain ⟨b1, b2, _⟩ := Zah q1
  obtain ⟨c1, c2, _⟩ := Zah q2
  obtain ⟨d1, d2, _⟩ := Zah q3
  obtain ⟨e1, e2, e3⟩ := Zah h2
  exact ⟨⟨a1, a2, b1, b2, c1, c2, d1, d2⟩, e1, e2, by rw [Zan]; exact e3⟩
theorem eRT (a b c d l : List (List Int)) (sp p0 p1 p2 p3 : List (List D))  (K : DV → Prop) : (askL Tryz.prog [] [(2, fRT a b c d l sp p0 p1 p2 p3)] Tryz.f165 [dA (mZ a) p0 (mZ b) p1 (mZ c) p2 (mZ d) p3, dS 3 (mZ l) sp] K) = (stRT (mZ a) p0 (mZ b) p1 (mZ c) p2 (mZ d) p3 (mZ l) sp false (0) = stRT (mZ a) p0 (mZ b) p1 (mZ c) p2 (mZ d) p3 (mZ l) sp false (0) ∧ (∀ (i : Nat), firstAt (fun i => !thv a b c d (List.getD l i [])) (List.length l) i → K (DV.c (D.v (Value.bool false)))) ∧ (noneTo (fun i => !thv a b c d (List.getD l i [])) (List.length l) → K (DV.c (D.v (Value.bool true))))) := by kernel_rfl
end

section
open Go Go.Proofs
def cv (a b c d l : List (List Int)) : Bool := gets a b c d l && l.any (badC a b c d)
theorem Zsd {l : List (List Int)} {p : List Int → Bool} (h : l.any (fun r => !p r) = true) : l.all p = false := by
  rw [List.all_eq_not_any_not, h]; rfl
theorem ZrI {l : List (List Int)} {p : List Int → Bool} (h : l.any (fun r => !p r) = false) : l.all p = true := by
  rw [List.all_eq_not_any_not, h]; rfl
theorem oRT : Zad Tryz.prog 165 sRT := o_of Tryz.func165 (by kernel_rfl) rfl fun ds Q h => by
  unfold sRT at h; split at h
  · rename_i R0 p0 R1 p1 R2 p2 R3 p3 R sp
    obtain ⟨h1, h2⟩ := Zag h
    have hA := h1
    rw [Bool.and_eq_true] at hA
    obtain ⟨⟨a1, a2, b1, b2, c1, c2, d1, d2⟩, e1, e2, e3⟩ := s4 h1
    have hA' := hA
    rw [a1, b1, c1, d1, e1] at hA'
    rw [a1, b1, c1, d1, e1]
    generalize toZ R0 = a at *
    generalize toZ R1 = b at *
    generalize toZ R2 = c at *
    generalize toZ R3 = d at *
    generalize toZ R = l at *
    refine ⟨_, ZaB (l := []) (m := [(2, fRT a b c d l sp p0 p1 p2 p3)]) .nil mixed (Za9 rfl (by kernel_rfl) (kRT a2 b2 c2 d2 e2 e3)) Tryz.func165 rfl rfl rfl ?_, rfl, rfl, h2⟩
    rw [eRT]
    refine ⟨by trivial, fun i hi => ?_, fun hn => ?_⟩
    · have := hi.any (l := l) (d := []) (p := fun r => !thv a b c d r)
      rw [Zsd this]
    · have := hn.any (l := l) (d := []) (p := fun r => !thv a b c d r)
      rw [ZrI this]
  · exact h.elim
end

section
open Go Go.Proofs
def plc (x y : Int) : Int := IntKind.wrap .i64 (IntKind.wrap .i64 (4 * x) + y)
theorem ePl (x y : Int) (K : DV → Prop) : (ask Tryz.prog [] Tryz.f141 [I x, I y] K) = (K (DV.c (D.v (Value.int IntKind.i64 (IntKind.wrap IntKind.i64 (IntKind.wrap IntKind.i64 (4 * x) + y)))))) := by kernel_rfl
def sPl : Spec := fun ds Q => match ds with | [.c (.v (.int .i64 x)), .c (.v (.int .i64 y))] => Q (I (plc x y)) | _ => False
theorem oPl : Zad Tryz.prog 141 sPl := o_of Tryz.func141 (by kernel_rfl) rfl fun ds Q h => by
  unfold sPl at h; split at h
  · rename_i x y
    refine ⟨_, Zak .nil mixed Tryz.func141 rfl rfl rfl ?_, rfl, rfl, h⟩
    rw [ePl]; rfl
  · exact h.elim
def ior (a b : Int) : Int := bif a != 0 then a else b
theorem eOr (a b : Int) (K : DV → Prop) : (ask Tryz.prog [] Tryz.f180 [dS 1 [[vI a], [vI b]] []] K) = (bif a != 0 then K (DV.c (D.v (Value.int IntKind.i64 a))) else bif b != 0 then K (DV.c (D.v (Value.int IntKind.i64 b))) else K (DV.c (D.v (Value.int IntKind.i64 (0))))) := by kernel_rfl
def sOr : Spec := fun ds Q => match ds with | [.c (.s 0 1 [[.v (.int .i64 a)], [.v (.int .i64 b)]] [])] => Q (I (ior a b)) | _ => False
theorem oOr : Zad Tryz.prog 180 sOr := o_of Tryz.func180 (by kernel_rfl) rfl fun ds Q h => by
  unfold sOr at h; split at h
  · rename_i a b
    refine ⟨_, Zak .nil mixed Tryz.func180 rfl rfl rfl ?_, rfl, rfl, h⟩
    rw [eOr]; unfold ior
    cases ha : (a != 0) with
    | true => rfl
    | false =>
      by_cases hb : b = 0
      · subst hb; rfl
      · have : (b != 0) = true := by simpa using hb
        rw [this]; rfl
  · exact h.elim
theorem eRow (a b c x y z : Int) (K : DV → Prop) : (ask Tryz.prog [(180, sOr)] Tryz.f139 [.agg [vI a, vI b, vI c], .agg [vI x, vI y, vI z]] K) = (K (DV.c (D.v (Value.int IntKind.i64 (ior (IntKind.wrap IntKind.i64 (a - x)) (IntKind.wrap IntKind.i64 (b - y))))))) := by kernel_rfl
def rw3 (r : List Int) (a b : Int) : Int := ior (IntKind.wrap .i64 (r.getD 0 0 - a)) (IntKind.wrap .i64 (r.getD 1 0 - b))
def sRow : Spec := fun ds Q => match ds with | [.agg [.v (.int .i64 a), .v (.int .i64 b), .v (.int .i64 c)], .agg [.v (.int .i64 x), .v (.int .i64 y), .v (.int .i64 z)]] => Q (I (rw3 [a, b, c] x y)) | _ => False
theorem oRow : Zad Tryz.prog 139 sRow := o_of Tryz.func139 (by kernel_rfl) rfl fun ds Q h => by
  unfold sRow at h; split at h
  · rename_i a b c x y z
    refine ⟨_, Zak (.cons oOr .nil) mixed Tryz.func139 rfl rfl rfl ?_, rfl, rfl, h⟩
    rw [eRow]; rfl
  · exact h.elim
end

section
open Go Go.Proofs
def okw (r : List Int) : Bool := bif lab (r.getD 0 0) then bif ix4 (r.getD 1 0) then val8 (r.getD 2 0) else false else false
def ZfV (l : List (List Int)) (i : Nat) : Bool := !okw (l.getD i []) || (decide (0 < i) && decide (rw3 (l.getD (i - 1) []) ((l.getD i []).getD 0 0) ((l.getD i []).getD 1 0) ≥ 0))
def ZgC (l : List (List Int)) : Bool := decide (l.length ≤ 16) && !(List.range l.length).any (ZfV l)
def stWM (R sp : List (List D)) (v : Bool) (i : Int) : X := ⟨mkT 46 [(0, aS 3 R sp), (2, ab v), (5, aS 3 R sp), (6, ai R.length), (7, ai i)], [], [], []⟩
def vWM (R sp : List (List D)) : Vw := fun y K => wB y 2 fun v => wI y 7 fun i => K (stWM R sp v i)
theorem ZrZ (R sp : List (List D)) : VwOK (vWM R sp) := fun y K h => by
  unfold vWM at h
  obtain ⟨v, h⟩ := ZdM h
  obtain ⟨i, h⟩ := Za7 h
  exact ⟨_, h⟩
theorem rWM (R sp : List (List D)) (v : Bool) (i : Int) (N : X → Prop) (E : Exit → X → Prop) : (ZcC Tryz.prog (hkA band bor [(64, sB lab), (153, sB ix4), (115, sB val8), (139, sRow)] []) Tryz.f106 0 [] [0, 2, 5, 6, 7] [] (vWM R sp) (vWM R sp) N E (stWM R sp v i)) = (bif decide (i < @Nat.cast Int _ (List.length R)) then bif decide (0 ≤ i) && decide (i < @Nat.cast Int _ (List.length R)) then bif isJ [IntKind.i64, IntKind.i64, IntKind.i64] (List.drop (0) (List.getD R (Int.toNat i) [])) then bif !lab (hdJ (List.drop (0) (List.getD R (Int.toNat i) []))) then stWM R sp false i = stWM R sp false i ∧ E Exit.ret (stWM R sp false i) else bif !ix4 (hdJ (List.tail (List.drop (0) (List.getD R (Int.toNat i) [])))) then stWM R sp false i = stWM R sp false i ∧ E Exit.ret (stWM R sp false i) else bif !val8 (hdJ (List.tail (List.tail (List.drop (0) (List.getD R (Int.toNat i) []))))) then stWM R sp false i = stWM R sp false i ∧ E Exit.ret (stWM R sp false i) else bif decide (i > 0) then bif decide (0 ≤ IntKind.wrap IntKind.i64 (i - 1)) && decide (IntKind.wrap IntKind.i64 (i - 1) < @Nat.cast Int _ (List.length R)) then bif isJ [IntKind.i64, IntKind.i64, IntKind.i64] (List.drop (0) (List.getD R (Int.toNat (IntKind.wrap IntKind.i64 (i - 1))) [])) then bif decide (rw3 [hdJ (List.drop (0) (List.getD R (Int.toNat (IntKind.wrap IntKind.i64 (i - 1))) [])), hdJ (List.tail (List.drop (0) (List.getD R (Int.toNat (IntKind.wrap IntKind.i64 (i - 1))) []))), hdJ (List.tail (List.tail (List.drop (0) (List.getD R (Int.toNat (IntKind.wrap IntKind.i64 (i - 1))) []))))] (hdJ (List.drop (0) (List.getD R (Int.toNat i) []))) (hdJ (List.tail (List.drop (0) (List.getD R (Int.toNat i) [])))) ≥ 0) then stWM R sp false i = stWM R sp false i ∧ E Exit.ret (stWM R sp false i) else stWM R sp v (IntKind.wrap IntKind.i64 (i + 1)) = stWM R sp v (IntKind.wrap IntKind.i64 (i + 1)) ∧ N (stWM R sp v (IntKind.wrap IntKind.i64 (i + 1))) else False else False else stWM R sp v (IntKind.wrap IntKind.i64 (i + 1)) = stWM R sp v (IntKind.wrap IntKind.i64 (i + 1)) ∧ N (stWM R sp v (IntKind.wrap IntKind.i64 (i + 1))) else False else False else stWM R sp v i = stWM R sp v i ∧ E (Exit.exit (0)) (stWM R sp v i)) := by kernel_rfl
def stWP (R sp : List (List D)) (v : Bool) (i : Int) : X := ⟨mkT 65 [(0, aS 3 R sp), (2, ab v), (3, ai i)], [], [], []⟩
def vWP (R sp : List (List D)) : Vw := fun y K => wB y 2 fun v => wI y 3 fun i => K (stWP R sp v i)
theorem ZrW (R sp : List (List D)) : VwOK (vWP R sp) := fun y K h => by
  unfold vWP at h
  obtain ⟨v, h⟩ := ZdM h
  obtain ⟨i, h⟩ := Za7 h
  exact ⟨_, h⟩
theorem rWP (R sp : List (List D)) (v : Bool) (i : Int) (N : X → Prop) (E : Exit → X → Prop) : (ZcC Tryz.prog (hkA band bor [(166, sWN), (91, sB val8), (141, sPl)] []) Tryz.f123 0 [] [0, 2, 3] [] (vWP R sp) (vWP R sp) N E (stWP R sp v i)) = (bif decide (i < @Nat.cast Int _ (List.length R)) then bif decide (0 ≤ i) && decide (i < @Nat.cast Int _ (List.length R)) then bif isJ [IntKind.i64] (List.drop (0) (List.getD R (Int.toNat i) [])) then bif decide (0 ≤ i) && decide (i < @Nat.cast Int _ (List.length R)) then bif isJ [IntKind.i64] (List.drop (1) (List.getD R (Int.toNat i) [])) then bif !wnm (hdJ (List.drop (0) (List.getD R (Int.toNat i) []))) (hdJ (List.drop (1) (List.getD R (Int.toNat i) []))) then stWP R sp false i = stWP R sp false i ∧ E Exit.ret (stWP R sp false i) else bif decide (0 ≤ i) && decide (i < @Nat.cast Int _ (List.length R)) then bif isJ [IntKind.i64] (List.drop (2) (List.getD R (Int.toNat i) [])) then bif !val8 (hdJ (List.drop (2) (List.getD R (Int.toNat i) []))) then stWP R sp false i = stWP R sp false i ∧ E Exit.ret (stWP R sp false i) else bif decide (i > 0) then bif decide (0 ≤ i) && decide (i < @Nat.cast Int _ (List.length R)) then bif isJ [IntKind.i64] (List.drop (0) (List.getD R (Int.toNat i) [])) then bif decide (0 ≤ i) && decide (i < @Nat.cast Int _ (List.length R)) then bif isJ [IntKind.i64] (List.drop (1) (List.getD R (Int.toNat i) [])) then bif decide (0 ≤ IntKind.wrap IntKind.i64 (i - 1)) && decide (IntKind.wrap IntKind.i64 (i - 1) < @Nat.cast Int _ (List.length R)) then bif isJ [IntKind.i64] (List.drop (0) (List.getD R (Int.toNat (IntKind.wrap IntKind.i64 (i - 1))) [])) then bif decide (0 ≤ IntKind.wrap IntKind.i64 (i - 1)) && decide (IntKind.wrap IntKind.i64 (i - 1) < @Nat.cast Int _ (List.length R)) then bif isJ [IntKind.i64] (List.drop (1) (List.getD R (Int.toNat (IntKind.wrap IntKind.i64 (i - 1))) [])) then bif decide (plc (hdJ (List.drop (0) (List.getD R (Int.toNat i) []))) (hdJ (List.drop (1) (List.getD R (Int.toNat i) []))) ≤ plc (hdJ (List.drop (0) (List.getD R (Int.toNat (IntKind.wrap IntKind.i64 (i - 1))) []))) (hdJ (List.drop (1) (List.getD R (Int.toNat (IntKind.wrap IntKind.i64 (i - 1))) [])))) then stWP R sp false i = stWP R sp false i ∧ E Exit.ret (stWP R sp false i) else stWP R sp v (IntKind.wrap IntKind.i64 (i + 1)) = stWP R sp v (IntKind.wrap IntKind.i64 (i + 1)) ∧ N (stWP R sp v (IntKind.wrap IntKind.i64 (i + 1))) else False else False else False else False else False else False else False else False else stWP R sp v (IntKind.wrap IntKind.i64 (i + 1)) = stWP R sp v (IntKind.wrap IntKind.i64 (i + 1)) ∧ N (stWP R sp v (IntKind.wrap IntKind.i64 (i + 1))) else False else False else False else False else False else False else stWP R sp v i = stWP R sp v i ∧ E (Exit.exit (0)) (stWP R sp v i)) := by kernel_rfl
theorem Zkx {m : Nat} (h : m + 1 ≤ 9223372036854775807) : IntKind.wrap .i64 (((m + 1 : Nat) : Int) - 1) = ((m : Nat) : Int) := by rw [IntKind.wrap_i64]; omega
def fWM (l : List (List Int)) (sp : List (List D)) : LSum := Zde [0, 2, 5, 6, 7] [] (fun i => stWM (mZ l) sp false i) (fun i => stWM (mZ l) sp false i) l.length (ZfV l) .ret (.exit 0)
theorem kWM {l : List (List Int)} {sp : List (List D)} (hw : wid 3 l) (hn : l.length ≤ 9223372036854775807) (Q : Exit → X → Prop) (x : X) (h : fWM l sp Q x) : XWP Tryz.prog (.loop (Zal Tryz.f106 0)) Q x := by
  refine Zcd (H := hkA band bor [(64, sB lab), (153, sB ix4), (115, sB val8), (139, sRow)] []) (sw := []) (V := vWM (mZ l) sp) (VE := vWM (mZ l) sp) (ZaJ (.cons oLab (.cons oIdx (.cons oVal (.cons oRow .nil))))) mixed (Zae rfl) (ZrZ (mZ l) sp) (ZrZ (mZ l) sp) _ _ _ _ _ _ (fun i hl N E h1 h2 => ?_) (fun N E h1 => ?_) Q x h
  · rw [rWM]
    have wi : IntKind.wrap .i64 ((i : Int) + 1) = ((i + 1 : Nat) : Int) := Zaj (n := 1) (by omega)
    have hj1 : isJ [IntKind.i64, IntKind.i64, IntKind.i64] ((mZ l).getD i []) = true := Zau (j := 0) (n := 3) hw hl (by omega)
    have hz : decide (((i : Nat) : Int) > 0) = decide (0 < i) := by by_cases h : 0 < i <;> simp [h]
    simp only [Zai, Int.ofNat_lt, hl, decide_true, cond_true, Int.natCast_nonneg, Bool.and_self, Int.toNat_natCast, ZaV, ZaT, hj1, List.drop_zero, ZaF, true_and, wi, hz]
    unfold ZfV okw at h1 h2
    revert h1 h2
    generalize lab ((l.getD i []).getD 0 0) = p1
    generalize ix4 ((l.getD i []).getD 1 0) = p2
    generalize val8 ((l.getD i []).getD 2 0) = p3
    intro h1 h2
    cases p1
    · exact h1 rfl
    cases p2
    · exact h1 rfl
    cases p3
    · exact h1 rfl
    by_cases h0 : 0 < i
    · obtain ⟨m, rfl⟩ : ∃ m, i = m + 1 := ⟨i - 1, by omega⟩
      have hlm : m < l.length := by omega
      have hj2 : isJ [IntKind.i64, IntKind.i64, IntKind.i64] ((mZ l).getD m []) = true := Zau (j := 0) (n := 3) hw hlm (by omega)
      have wp := Zkx (m := m) (by omega)
      have hr : rw3 [(l.getD m []).getD 0 0, (l.getD m []).getD 1 0, (l.getD m []).getD 2 0] ((l.getD (m + 1) []).getD 0 0) ((l.getD (m + 1) []).getD 1 0) = rw3 (l.getD m []) ((l.getD (m + 1) []).getD 0 0) ((l.getD (m + 1) []).getD 1 0) := rfl
      simp only [h0, decide_true, cond_true, wp, Int.ofNat_lt, hlm, Int.natCast_nonneg, Bool.and_self, Int.toNat_natCast, hj2, ZaF, ZaV, ZaT, hr, Nat.add_sub_cancel, Bool.not_true, Bool.true_and, Bool.false_or, cond_false] at h1 h2 ⊢
      cases hd : decide (rw3 (l.getD m []) ((l.getD (m + 1) []).getD 0 0) ((l.getD (m + 1) []).getD 1 0) ≥ 0) with
      | true => rw [hd] at h1; exact h1 rfl
      | false => rw [hd] at h2; exact h2 rfl
    · simp only [h0, decide_false, Bool.false_and, Bool.or_false, cond_true, Bool.not_true, cond_false] at h1 h2 ⊢
      exact h2 trivial
  · rw [rWM]
    simp only [Zai, Int.ofNat_lt, Nat.lt_irrefl, decide_false, cond_false, true_and]
    exact h1
theorem eWM (l : List (List Int)) (sp : List (List D)) (K : DV → Prop) : (askL Tryz.prog [] [(2, fWM l sp)] Tryz.f106 [dS 3 (mZ l) sp] K) = (stWM (mZ l) sp false (0) = stWM (mZ l) sp false (0) ∧ (∀ (i : Nat), firstAt (ZfV l) (List.length l) i → K (DV.c (D.v (Value.bool false)))) ∧ (noneTo (ZfV l) (List.length l) → K (DV.c (D.v (Value.bool (decide (@Nat.cast Int _ (List.length (mZ l)) ≤ 16))))))) := by kernel_rfl
def sWMy : Spec := fun ds Q => match ds with | [.c (.s 0 3 R sp)] => cond (okZ 3 R) (Q (B (ZgC (toZ R)))) False | _ => False
theorem oWMy : Zad Tryz.prog 106 sWMy := o_of Tryz.func106 (by kernel_rfl) rfl fun ds Q h => by
  unfold sWMy at h; split at h
  · rename_i R sp
    obtain ⟨h1, h2⟩ := Zag h
    obtain ⟨e1, w1, n1⟩ := Zah h1
    rw [e1]
    rw [← Zan R] at n1
    generalize toZ R = l at *
    refine ⟨_, ZaB (l := []) (m := [(2, fWM l sp)]) .nil mixed (Za9 rfl (by kernel_rfl) (kWM w1 n1)) Tryz.func106 rfl rfl rfl ?_, rfl, rfl, h2⟩
    rw [eWM]
    refine ⟨rfl, fun i hi => ?_, fun hn => ?_⟩
    · unfold ZgC; rw [hi.b]; simp
    · unfold ZgC; rw [hn.b]
      by_cases h : l.length ≤ 16 <;> simp [Zai, h] <;> omega
  · exact h.elim
def key (r : List Int) : Int := 4 * r.getD 0 0 + r.getD 1 0
def badP (l : List (List Int)) (i : Nat) : Bool := !okw (l.getD i []) || (decide (0 < i) && decide (plc ((l.getD i []).getD 0 0) ((l.getD i []).getD 1 0) ≤ plc ((l.getD (i - 1) []).getD 0 0) ((l.getD (i - 1) []).getD 1 0)))
def inW (r : List Int) : Prop := (0 ≤ r.getD 0 0 ∧ r.getD 0 0 ≤ 3) ∧ (0 ≤ r.getD 1 0 ∧ r.getD 1 0 ≤ 3)
theorem Zg1 {x a b : Int} : upto x a b = true ↔ a ≤ x ∧ x ≤ b := by unfold upto; simp
theorem ZfE {r : List Int} (h : okw r = true) : inW r ∧ 0 ≤ r.getD 2 0 ∧ r.getD 2 0 ≤ 255 := by
  unfold okw at h
  cases h1 : lab (r.getD 0 0) with
  | false => rw [h1] at h; cases h
  | true =>
    cases h2 : ix4 (r.getD 1 0) with
    | false => rw [h1, h2] at h; cases h
    | true => rw [h1, h2] at h; exact ⟨⟨Zg1.1 h1, Zg1.1 h2⟩, Zg1.1 h⟩
theorem wrap_small {x : Int} (h : -9223372036854775808 ≤ x ∧ x ≤ 9223372036854775807) : IntKind.wrap .i64 x = x := by rw [IntKind.wrap_i64]; omega
theorem ZiB {r : List Int} (h : inW r) : plc (r.getD 0 0) (r.getD 1 0) = key r := by
  obtain ⟨⟨h1, h2⟩, h3, h4⟩ := h
  unfold plc key
  rw [wrap_small (x := 4 * r.getD 0 0) (by omega), wrap_small (by omega)]
theorem Zp6 {r : List Int} {a b : Int} (h : inW r) (ha : 0 ≤ a ∧ a ≤ 3) (hb : 0 ≤ b ∧ b ≤ 3) : (rw3 r a b < 0 ↔ key r < 4 * a + b) ∧ (rw3 r a b = 0 ↔ key r = 4 * a + b) := by
  obtain ⟨⟨h1, h2⟩, h3, h4⟩ := h
  unfold rw3 ior key
  rw [wrap_small (x := r.getD 0 0 - a) (by omega), wrap_small (x := r.getD 1 0 - b) (by omega)]
  generalize r.getD 0 0 = x at *
  generalize r.getD 1 0 = y at *
  cases hx : (x - a != 0) with
  | true => have hx : x - a ≠ 0 := by simpa using hx
            simp only [cond_true]; constructor <;> constructor <;> intro h <;> omega
  | false => have hx : x - a = 0 := by simpa using hx
             simp only [cond_false]; constructor <;> constructor <;> intro h <;> omega
def okWs (l : List (List Int)) : Prop := ∀ i, i < l.length → okw (l.getD i []) = true ∧ (0 < i → key (l.getD (i - 1) []) < key (l.getD i []))
theorem ZqD (l : List (List Int)) : (List.range l.length).any (ZfV l) = false ↔ okWs l := by
  rw [List.any_eq_false]
  constructor
  · intro h i hi
    have hb := h i (by simpa using hi)
    have hok : okw (l.getD i []) = true := by
      unfold ZfV at hb
      cases hx : okw (l.getD i []) with
      | true => rfl
      | false => rw [hx] at hb; simp at hb
    refine ⟨hok, fun h0 => ?_⟩
    have hb1 := h (i - 1) (by simp; omega)
    have hok1 : okw (l.getD (i - 1) []) = true := by
      unfold ZfV at hb1
      cases hx : okw (l.getD (i - 1) []) with
      | true => rfl
      | false => rw [hx] at hb1; simp at hb1
    unfold ZfV at hb
    rw [hok] at hb
    have hr := (ZfE hok).1
    have := (Zp6 (ZfE hok1).1 hr.1 hr.2).1
    simp only [h0, decide_true, Bool.not_true, Bool.false_or, Bool.true_and, decide_eq_true_eq] at hb
    have := this.1 (by omega)
    unfold key at this ⊢
    omega
  · intro h i hi
    obtain ⟨h1, h2⟩ := h i (by simpa using hi)
    unfold ZfV
    rw [h1]
    by_cases h0 : 0 < i
    · have hi' : i < l.length := by simpa using hi
      have hok1 := (h (i - 1) (by omega)).1
      have hr := (ZfE h1).1
      have := (Zp6 (ZfE hok1).1 hr.1 hr.2).1
      have := this.2 (by have := h2 h0; unfold key at this ⊢; omega)
      simp only [h0, decide_true, Bool.not_true, Bool.false_or, Bool.true_and, decide_eq_true_eq]; omega
    · simp only [h0, decide_false, Bool.not_true, Bool.false_or, Bool.false_and]; simp
theorem ZqS (l : List (List Int)) : (List.range l.length).any (badP l) = false ↔ okWs l := by
  rw [List.any_eq_false]
  constructor
  · intro h i hi
    have hb := h i (by simpa using hi)
    have hok : okw (l.getD i []) = true := by
      unfold badP at hb
      cases hx : okw (l.getD i []) with
      | true => rfl
      | false => rw [hx] at hb; simp at hb
    refine ⟨hok, fun h0 => ?_⟩
    have hb1 := h (i - 1) (by simp; omega)
    have hok1 : okw (l.getD (i - 1) []) = true := by
      unfold badP at hb1
      cases hx : okw (l.getD (i - 1) []) with
      | true => rfl
      | false => rw [hx] at hb1; simp at hb1
    unfold badP at hb
    rw [hok, ZiB (ZfE hok).1, ZiB (ZfE hok1).1] at hb
    simp only [h0, decide_true, Bool.not_true, Bool.false_or, Bool.true_and, decide_eq_true_eq] at hb
    omega
  · intro h i hi
    obtain ⟨h1, h2⟩ := h i (by simpa using hi)
    unfold badP
    rw [h1]
    by_cases h0 : 0 < i
    · have hi' : i < l.length := by simpa using hi
      have hok1 := (h (i - 1) (by omega)).1
      rw [ZiB (ZfE h1).1, ZiB (ZfE hok1).1]
      have := h2 h0
      simp only [h0, decide_true, Bool.not_true, Bool.false_or, Bool.true_and, decide_eq_true_eq]; omega
    · simp only [h0, decide_false, Bool.not_true, Bool.false_or, Bool.false_and]; simp
theorem ZtX (l : List (List Int)) : (List.range l.length).any (badP l) = (List.range l.length).any (ZfV l) := by
  have h1 := ZqS l
  have h2 := ZqD l
  cases hp : (List.range l.length).any (badP l) with
  | false => rw [h2.2 (h1.1 hp)]
  | true =>
    cases hw : (List.range l.length).any (ZfV l) with
    | true => rfl
    | false => rw [h1.2 (h2.1 hw)] at hp; cases hp
def fWP (l : List (List Int)) (sp : List (List D)) : LSum := Zde [0, 2, 3] [] (fun i => stWP (mZ l) sp false i) (fun i => stWP (mZ l) sp false i) l.length (badP l) .ret (.exit 0)
theorem kWP {l : List (List Int)} {sp : List (List D)} (hw : wid 3 l) (hn : l.length ≤ 9223372036854775807) (Q : Exit → X → Prop) (x : X) (h : fWP l sp Q x) : XWP Tryz.prog (.loop (Zal Tryz.f123 0)) Q x := by
  refine Zcd (H := hkA band bor [(166, sWN), (91, sB val8), (141, sPl)] []) (sw := []) (V := vWP (mZ l) sp) (VE := vWP (mZ l) sp) (ZaJ (.cons oWN (.cons ZgR (.cons oPl .nil)))) mixed (Zae rfl) (ZrW (mZ l) sp) (ZrW (mZ l) sp) _ _ _ _ _ _ (fun i hl N E h1 h2 => ?_) (fun N E h1 => ?_) Q x h
  · rw [rWP]
    have wi : IntKind.wrap .i64 ((i : Int) + 1) = ((i + 1 : Nat) : Int) := Zaj (n := 1) (by omega)
    have hj0 : isJ [IntKind.i64] (((mZ l).getD i [])) = true := Zb9 (j := 0) hw hl (by omega)
    have hj1 : isJ [IntKind.i64] (((mZ l).getD i []).drop 1) = true := Zb9 (j := 1) hw hl (by omega)
    have hj2 : isJ [IntKind.i64] (((mZ l).getD i []).drop 2) = true := Zb9 (j := 2) hw hl (by omega)
    have hz : decide (((i : Nat) : Int) > 0) = decide (0 < i) := by by_cases h : 0 < i <;> simp [h]
    simp only [Zai, Int.ofNat_lt, hl, decide_true, cond_true, Int.natCast_nonneg, Bool.and_self, Int.toNat_natCast, hj0, hj1, hj2, List.drop_zero, ZaF, ZbS, true_and, wi, hz]
    unfold badP okw at h1 h2
    unfold wnm
    revert h1 h2
    generalize lab ((l.getD i []).getD 0 0) = p1
    generalize ix4 ((l.getD i []).getD 1 0) = p2
    generalize val8 ((l.getD i []).getD 2 0) = p3
    intro h1 h2
    cases p1
    · exact h1 rfl
    cases p2
    · exact h1 rfl
    cases p3
    · exact h1 rfl
    by_cases h0 : 0 < i
    · obtain ⟨m, rfl⟩ : ∃ m, i = m + 1 := ⟨i - 1, by omega⟩
      have hlm : m < l.length := by omega
      have hk0 : isJ [IntKind.i64] (((mZ l).getD m [])) = true := Zb9 (j := 0) hw hlm (by omega)
      have hk1 : isJ [IntKind.i64] (((mZ l).getD m []).drop 1) = true := Zb9 (j := 1) hw hlm (by omega)
      have wp := Zkx (m := m) (by omega)
      simp only [h0, decide_true, cond_true, wp, Int.ofNat_lt, hlm, Int.natCast_nonneg, Bool.and_self, Int.toNat_natCast, hk0, hk1, ZaF, ZbS, Nat.add_sub_cancel, Bool.not_true, Bool.true_and, Bool.false_or, cond_false] at h1 h2 ⊢
      cases hd : decide (plc ((l.getD (m + 1) []).getD 0 0) ((l.getD (m + 1) []).getD 1 0) ≤ plc ((l.getD m []).getD 0 0) ((l.getD m []).getD 1 0)) with
      | true => rw [hd] at h1; exact h1 rfl
      | false => rw [hd] at h2; exact h2 rfl
    · simp only [h0, decide_false, Bool.false_and, Bool.or_false, cond_true, Bool.not_true, cond_false] at h1 h2 ⊢
      exact h2 trivial
  · rw [rWP]
    simp only [Zai, Int.ofNat_lt, Nat.lt_irrefl, decide_false, cond_false, true_and]
    exact h1
theorem eWP (l : List (List Int)) (sp : List (List D)) (K : DV → Prop) : (askL Tryz.prog [] [(2, fWP l sp)] Tryz.f123 [dS 3 (mZ l) sp] K) = (stWP (mZ l) sp false (0) = stWP (mZ l) sp false (0) ∧ (∀ (i : Nat), firstAt (badP l) (List.length l) i → K (DV.c (D.v (Value.bool false)))) ∧ (noneTo (badP l) (List.length l) → K (DV.c (D.v (Value.bool (decide (@Nat.cast Int _ (List.length (mZ l)) ≤ 16))))))) := by kernel_rfl
theorem oWPy : Zad Tryz.prog 123 sWMy := o_of Tryz.func123 (by kernel_rfl) rfl fun ds Q h => by
  unfold sWMy at h; split at h
  · rename_i R sp
    obtain ⟨h1, h2⟩ := Zag h
    obtain ⟨e1, w1, n1⟩ := Zah h1
    rw [e1]
    rw [← Zan R] at n1
    generalize toZ R = l at *
    refine ⟨_, ZaB (l := []) (m := [(2, fWP l sp)]) .nil mixed (Za9 rfl (by kernel_rfl) (kWP w1 n1)) Tryz.func123 rfl rfl rfl ?_, rfl, rfl, h2⟩
    rw [eWP]
    refine ⟨rfl, fun i hi => ?_, fun hn => ?_⟩
    · unfold ZgC; rw [← ZtX, hi.b]; simp
    · unfold ZgC; rw [← ZtX, hn.b]
      by_cases h : l.length ≤ 16 <;> simp [Zai, h] <;> omega
  · exact h.elim
end

section
open Go Go.Proofs
def in64 (x : Int) : Bool := decide (-9223372036854775808 ≤ x) && decide (x ≤ 9223372036854775807)
end

section
open Go Go.Proofs
theorem o_al {f : FuncId} {fn : Func} {s : Spec} (hf : Tryz.prog.funcs[f]? = some fn) (hn : (fn.name == "runtime.NumGoroutine") = false) (hb : fn.body.isNone = false) (hc : ∀ ds Q, s ds Q → ∃ es r, All2 AL ds es ∧ CT Tryz.prog f es r ∧ r.pureOwn = true ∧ r.fit32 = true ∧ Q r) : Zad Tryz.prog f s := fun ds Q h => ⟨Zaq hf hn hb, by
  obtain ⟨es, r, h0, h1, h2, h3, h4⟩ := hc ds Q h
  exact ⟨r, h1.args h0, .inl h2, h3, h4⟩⟩
theorem RD.shift {t t' off n : Nat} {cs : List D} : RD (.p t cs off) (.p t' ((cs.drop off).take n) 0) := fun w G v hv => by
  cases hv with
  | p _ _ b o _ vs hb hc hd =>
    have := DR.p (w := w) (G := G) t' ((cs.drop off).take n) b (o + off) 0 (fun j => vs (off + j)) hb (fun j hj => by
      have : off + j < cs.length := by simp at hj; omega
      rw [Nat.add_assoc]; exact hc (off + j) this) (fun j d hj => by
      rw [List.getElem?_take] at hj
      split at hj
      · rw [List.getElem?_drop] at hj
        exact hd (off + j) d hj
      · cases hj)
    simpa using this
theorem RD.trans {a b c : D} (h : RD a b) (h' : RD b c) : RD a c := fun w G v hv => h' w G v (h w G v hv)
theorem RD.f {fn : FuncId} {fs fs' cs cs' : List D} (h : All2 RD fs fs') (h' : All2 RD cs cs') (hn : fn ≠ AG) : RD (.f fn fs cs) (.f fn fs' cs') := fun w G v hv => by
  cases hv with
  | a => exact (hn rfl).elim
  | f _ _ _ fv cv h0 h1 h2 h3 h4 =>
    refine .f fn fs' cs' fv cv h0 (by rw [← h.len]; exact h1) (by rw [← h'.len]; exact h2) (fun i d hi => ?_) (fun i d hi => ?_)
    · obtain ⟨d0, g1, g2⟩ := h.get hi
      exact g2 _ _ _ (h3 i d0 g1)
    · obtain ⟨d0, g1, g2⟩ := h'.get hi
      exact g2 _ _ _ (h4 i d0 g1)
theorem RD.ag {cs cs' : List D} (h' : All2 RD cs cs') : RD (.f AG [] cs) (.f AG [] cs') := fun w G v hv => by
  cases hv with
  | f _ _ _ fv cv h0 => exact (h0 rfl).elim
  | a _ vs h1 h2 =>
    refine .a cs' vs (by rw [← h'.len]; exact h1) fun i d hi => ?_
    obtain ⟨d0, g1, g2⟩ := h'.get hi
    exact g2 _ _ _ (h2 i d0 g1)
def ZsJ (cs : List D) (K : Int → Int → Int → Int → Prop) : Prop := match cs with
  | a :: b :: c :: d :: _ => ZbK a fun a => ZbK b fun b => ZbK c fun c => ZbK d fun d => K a b c d
  | _ => False
theorem ZnS {cs : List D} {K : Int → Int → Int → Int → Prop} (h : ZsJ cs K) : ∃ a b c d, K a b c d ∧ All2 RD (cs.take 4) [vN a, vN b, vN c, vN d] := by
  unfold ZsJ at h
  split at h
  · obtain ⟨a, h, e0⟩ := Zap h
    obtain ⟨b, h, e1⟩ := Zap h
    obtain ⟨c, h, e2⟩ := Zap h
    obtain ⟨d, h, e3⟩ := Zap h
    exact ⟨a, b, c, d, h, .cons e0 (.cons e1 (.cons e2 (.cons e3 .nil)))⟩
  · exact h.elim
def ZmN (d : D) (K : Int → Int → Int → Int → Prop) : Prop := match d with
  | .p _ cs off => ZsJ (cs.drop off) K
  | _ => False
theorem Zgf {d : D} {K : Int → Int → Int → Int → Prop} (h : ZmN d K) : ∃ a b c e, K a b c e ∧ RD d (.p 0 [vN a, vN b, vN c, vN e] 0) ∧ d.isOwn = false := by
  unfold ZmN at h
  split at h
  · obtain ⟨a, b, c, d, h, e⟩ := ZnS h
    exact ⟨a, b, c, d, h, (RD.shift (t' := 0)).trans (RD.cells e), rfl⟩
  · exact h.elim
def Zib (cs : List D) (K : List (List D) → List (List D) → List (List D) → List (List D) → Prop) : Prop := match cs with
  | a :: b :: c :: d :: _ => Zcg 3 a fun a => Zcg 3 b fun b => Zcg 3 c fun c => Zcg 3 d fun d => K a b c d
  | _ => False
abbrev wsL (a b c d : List (List D)) : List D := [.s 0 3 a [], .s 0 3 b [], .s 0 3 c [], .s 0 3 d []]
theorem Zdi {cs : List D} {K : List (List D) → List (List D) → List (List D) → List (List D) → Prop} (h : Zib cs K) : ∃ a b c d, K a b c d ∧ All2 RD (cs.take 4) (wsL a b c d) := by
  unfold Zib at h
  split at h
  · obtain ⟨a, h, e0⟩ := Zay h
    obtain ⟨b, h, e1⟩ := Zay h
    obtain ⟨c, h, e2⟩ := Zay h
    obtain ⟨d, h, e3⟩ := Zay h
    exact ⟨a, b, c, d, h, .cons e0 (.cons e1 (.cons e2 (.cons e3 .nil)))⟩
  · exact h.elim
def Znc (d : D) (K : List (List D) → List (List D) → List (List D) → List (List D) → Prop) : Prop := match d with
  | .p _ cs off => Zib (cs.drop off) K
  | _ => False
theorem Zgz {d : D} {K : List (List D) → List (List D) → List (List D) → List (List D) → Prop} (h : Znc d K) : ∃ a b c e, K a b c e ∧ RD d (.p 0 (wsL a b c e) 0) ∧ d.isOwn = false := by
  unfold Znc at h
  split at h
  · obtain ⟨a, b, c, d, h, e⟩ := Zdi h
    exact ⟨a, b, c, d, h, (RD.shift (t' := 0)).trans (RD.cells e), rfl⟩
  · exact h.elim
def sNo : Spec := fun ds Q => match ds with | [.c (.v (.int .i64 x))] => lab x = false ∧ Q (B false) | _ => False
def v4 (a b c d : Int) : Bool := val8 a && (val8 b && (val8 c && val8 d))
theorem eRgM (a b c d : Int) (K : DV → Prop) : (ask Tryz.prog [(115, sB val8)] Tryz.f114 [.c (.p 0 [vi a, vi b, vi c, vi d] 0)] K) = (bif !val8 a then K (DV.c (D.v (Value.bool false))) else bif !val8 b then K (DV.c (D.v (Value.bool false))) else bif !val8 c then K (DV.c (D.v (Value.bool false))) else bif !val8 d then K (DV.c (D.v (Value.bool false))) else K (DV.c (D.v (Value.bool true)))) := by kernel_rfl
theorem cRgM (a b c d : Int) : CT Tryz.prog 114 [.c (.p 0 [vi a, vi b, vi c, vi d] 0)] (B (v4 a b c d)) := Zak (.cons oVal .nil) mixed Tryz.func114 rfl rfl rfl (by
  rw [eRgM]; unfold v4; cases val8 a <;> cases val8 b <;> cases val8 c <;> cases val8 d <;> rfl)
theorem ZwA (a b c d : Int) (K : DV → Prop) : (ask Tryz.prog [(91, sB val8)] Tryz.f121 [.agg [vi a, vi b, vi c, vi d]] K) = (bif !val8 a then K (DV.c (D.v (Value.bool false))) else bif !val8 b then K (DV.c (D.v (Value.bool false))) else bif !val8 c then K (DV.c (D.v (Value.bool false))) else bif !val8 d then K (DV.c (D.v (Value.bool false))) else K (DV.c (D.v (Value.bool true)))) := by kernel_rfl
theorem Zwj (a b c d : Int) : CT Tryz.prog 121 [.agg [vi a, vi b, vi c, vi d]] (B (v4 a b c d)) := Zak (.cons ZgR .nil) mixed Tryz.func121 rfl rfl rfl (by
  rw [ZwA]; unfold v4; cases val8 a <;> cases val8 b <;> cases val8 c <;> cases val8 d <;> rfl)
def ZrG : Spec := fun ds Q => match ds with | [.agg [.v (.int .i64 a), .v (.int .i64 b), .v (.int .i64 c), .v (.int .i64 d)]] => Q (B (v4 a b c d)) | _ => False
theorem Zuw : Zad Tryz.prog 121 ZrG := fun ds Q h => by
  unfold ZrG at h; split at h
  · exact ⟨Zaq Tryz.func121 (by kernel_rfl) rfl, _, Zwj _ _ _ _, .inl rfl, rfl, h⟩
  · exact h.elim
def sRgM : Spec := fun ds Q => match ds with | [.c d] => ZmN d fun a b c e => Q (B (v4 a b c e)) | _ => False
theorem oRgM : Zad Tryz.prog 114 sRgM := o_al Tryz.func114 (by kernel_rfl) rfl fun ds Q h => by
  unfold sRgM at h; split at h
  · obtain ⟨a, b, c, e, h, hr, ho⟩ := Zgf h
    exact ⟨_, _, .cons (.c hr ho rfl) .nil, cRgM a b c e, rfl, rfl, h⟩
  · exact h.elim
def ck4 (a b c d : Int) : Bool := clk a && (clk b && (clk c && clk d))
theorem eCkM (a b c d l : Int) (K : DV → Prop) : (ask Tryz.prog [(102, sB clk)] Tryz.f61 [.c (.p 0 [vi a, vi b, vi c, vi d] 0), I l] K) = (bif !clk a then K (DV.c (D.v (Value.bool false))) else bif !clk b then K (DV.c (D.v (Value.bool false))) else bif !clk c then K (DV.c (D.v (Value.bool false))) else bif !clk d then K (DV.c (D.v (Value.bool false))) else K (DV.c (D.v (Value.bool (clk l))))) := by kernel_rfl
def sCkM : Spec := fun ds Q => match ds with | [.c d, .c (.v (.int .i64 l))] => ZmN d fun a b c e => Q (B (ck4 a b c e && clk l)) | _ => False
theorem oCkM : Zad Tryz.prog 61 sCkM := o_al Tryz.func61 (by kernel_rfl) rfl fun ds Q h => by
  unfold sCkM at h; split at h
  · rename_i d l
    obtain ⟨a, b, c, e, h, hr, ho⟩ := Zgf h
    refine ⟨[.c (.p 0 [vi a, vi b, vi c, vi e] 0), I l], _, .cons (.c hr ho rfl) (.cons (.refl _) .nil), Zak (.cons oClk .nil) mixed Tryz.func61 rfl rfl rfl ?_, rfl, rfl, h⟩
    rw [eCkM]; unfold ck4; cases clk a <;> cases clk b <;> cases clk c <;> cases clk e <;> rfl
  · exact h.elim
end

end Vm
