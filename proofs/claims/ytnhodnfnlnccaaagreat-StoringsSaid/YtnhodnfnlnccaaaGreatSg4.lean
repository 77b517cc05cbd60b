/- An interpreter for Go's texts over plain data, its proof, and what it says of the functions that the law reaches. My own work. -/
import Derived.Test.YtnhodnfnlnccaaaGreatSg3
set_option linter.unusedSimpArgs false
set_option linter.unusedVariables false
set_option maxRecDepth 100000
set_option maxHeartbeats 2000000
namespace Vm
section
open Go Go.Proofs
def ZaE (R sp R' sp' : List (List D)) (i : Int) (p : Bool) : X := ⟨mkT 26 [(0, aS 4 R sp), (1, aS 4 R' sp'), (4, ab p), (5, ai i)], [], [], []⟩
def ZdX (R sp R' sp' : List (List D)) (y : X) : X := ZaE R sp R' sp' (Zcn y 5) (ZjQ y 4)
theorem Zk3 (R sp R' sp' : List (List D)) (i : Int) (p : Bool) (N : X → Prop) (E : Exit → X → Prop) : (ZaR band bor Tryz.prog [] [] Tryz.f77 0 [0, 1, 4, 5] [] (ZdX R sp R' sp') (ZdX R sp R' sp') N E (ZaE R sp R' sp' i p)) = (bif decide (i < @Nat.cast Int _ (List.length R)) then bif decide (0 ≤ i) && decide (i < @Nat.cast Int _ (List.length R)) then bif isJ [IntKind.i64, IntKind.i64, IntKind.i64, IntKind.i64] (List.drop (0) (List.getD R (Int.toNat i) [])) then bif decide (0 ≤ i) && decide (i < @Nat.cast Int _ (List.length R')) then bif isJ [IntKind.i64, IntKind.i64, IntKind.i64, IntKind.i64] (List.drop (0) (List.getD R' (Int.toNat i) [])) then bif !eqI [hdJ (List.drop (0) (List.getD R (Int.toNat i) [])), hdJ (List.tail (List.drop (0) (List.getD R (Int.toNat i) []))), hdJ (List.tail (List.tail (List.drop (0) (List.getD R (Int.toNat i) [])))), hdJ (List.tail (List.tail (List.tail (List.drop (0) (List.getD R (Int.toNat i) [])))))] [hdJ (List.drop (0) (List.getD R' (Int.toNat i) [])), hdJ (List.tail (List.drop (0) (List.getD R' (Int.toNat i) []))), hdJ (List.tail (List.tail (List.drop (0) (List.getD R' (Int.toNat i) [])))), hdJ (List.tail (List.tail (List.tail (List.drop (0) (List.getD R' (Int.toNat i) [])))))] then ZaE R sp R' sp' i false = ZaE R sp R' sp' i false ∧ E Exit.ret (ZaE R sp R' sp' i false) else ZaE R sp R' sp' (IntKind.wrap IntKind.i64 (i + 1)) p = ZaE R sp R' sp' (IntKind.wrap IntKind.i64 (i + 1)) p ∧ N (ZaE R sp R' sp' (IntKind.wrap IntKind.i64 (i + 1)) p) else False else False else False else False else ZaE R sp R' sp' i p = ZaE R sp R' sp' i p ∧ E (Exit.exit (0)) (ZaE R sp R' sp' i p)) := by kernel_rfl
def ZdK (l l' : List (List Int)) (sp sp' : List (List D)) : LSum := fun Q x => x.only [0, 1, 4, 5] [] = ZaE (mZ l) sp (mZ l') sp' 0 false ∧ (l = l' → Q (.exit 0) (ZaE (mZ l) sp (mZ l') sp' l.length false)) ∧ (l ≠ l' → ∀ i : Int, Q .ret (ZaE (mZ l) sp (mZ l') sp' i false))
theorem Zny (l l' : List (List Int)) (sp sp' : List (List D)) (K : DV → Prop) : (askL Tryz.prog [] [(4, ZdK l l' sp sp')] Tryz.f77 [dS 4 (mZ l) sp, dS 4 (mZ l') sp'] K) = (bif @Nat.cast Int _ (List.length (mZ l)) != @Nat.cast Int _ (List.length (mZ l')) then K (DV.c (D.v (Value.bool false))) else ZaE (mZ l) sp (mZ l') sp' (0) false = ZaE (mZ l) sp (mZ l') sp' (0) false ∧ (l = l' → K (DV.c (D.v (Value.bool true)))) ∧ (l ≠ l' → ∀ (i : Int), K (DV.c (D.v (Value.bool false))))) := by kernel_rfl
theorem Zlk (l l' : List (List Int)) (sp sp' : List (List D)) (K : DV → Prop) : (askL Tryz.prog [] [(4, fun _ _ => False)] Tryz.f77 [dS 4 (mZ l) sp, dS 4 (mZ l') sp'] K) = (bif @Nat.cast Int _ (List.length (mZ l)) != @Nat.cast Int _ (List.length (mZ l')) then K (DV.c (D.v (Value.bool false))) else False) := by kernel_rfl
theorem ZkD {l l' : List (List Int)} {sp sp' : List (List D)} (hw : wid 4 l) (hw' : wid 4 l') (hlen : l.length = l'.length) (hn : l.length ≤ 9223372036854775807) (Q : Exit → X → Prop) (x : X) (h : ZdK l l' sp sp' Q x) : XWP Tryz.prog (.loop (Zar Tryz.f77 0)) Q x := by
  obtain ⟨h1, h2, h3⟩ := h
  refine ZaB (ι := Nat) (H := hkA band bor [] []) (fn := Tryz.f77) (i := 0) (ts := [0, 1, 4, 5]) (ks := []) (ZaL .nil) mixed (Zai rfl)
    (fun i => ZaE (mZ l) sp (mZ l') sp' i false) (fun i => i ≤ l.length ∧ ∀ j, j < i → l.getD j [] = l'.getD j []) (fun i => l.length - i) 0 (ZdX (mZ l) sp (mZ l') sp') (ZdX (mZ l) sp (mZ l') sp') (fun i hp => ?_) ⟨Nat.zero_le _, fun j hj => by omega⟩ h1
  obtain ⟨hi, hj⟩ := hp
  show ZaR band bor Tryz.prog _ _ Tryz.f77 0 _ _ _ _ _ _ _
  rw [Zk3]
  by_cases hl : i < l.length
  · have wi : IntKind.wrap .i64 ((i : Int) + 1) = ((i + 1 : Nat) : Int) := Zan (n := 1) (by omega)
    have hl' : i < l'.length := by omega
    have hj1 : isJ [IntKind.i64, IntKind.i64, IntKind.i64, IntKind.i64] ((mZ l).getD i []) = true := Zav (j := 0) (n := 4) hw hl (by omega)
    have hj2 : isJ [IntKind.i64, IntKind.i64, IntKind.i64, IntKind.i64] ((mZ l').getD i []) = true := Zav (j := 0) (n := 4) hw' hl' (by omega)
    have he := ZeZ (l.getD i []) (l'.getD i []) (by rw [ZaA hw hl, ZaA hw' hl'])
    rw [← row4 (ZaA hw hl), ← row4 (ZaA hw' hl')] at he
    simp only [Zaf, Int.ofNat_lt, hl, hl', decide_true, cond_true, Int.natCast_nonneg, Bool.and_self, Int.toNat_natCast, ZaM, ZaO, Zbo, hj1, hj2, List.drop_zero, ZaJ, true_and, wi, he]
    rw [row4 (ZaA hw hl), row4 (ZaA hw' hl')]
    by_cases hee : l.getD i [] = l'.getD i []
    · rw [decide_eq_true hee]
      refine ⟨i + 1, by omega, ⟨hl, fun j hji => ?_⟩, rfl⟩
      rcases Nat.lt_succ_iff_lt_or_eq.1 hji with hji | rfl
      · exact hj j hji
      · exact hee
    · rw [decide_eq_false hee]
      exact h3 (fun e => hee (by rw [e])) _
  · have e : i = l.length := by omega
    subst e
    simp only [Zaf, Int.ofNat_lt, Nat.lt_irrefl, decide_false, cond_false, true_and]
    exact h2 (Zez hlen fun j h => hj j h)
theorem Zn3 {l l' : List (List Int)} {sp sp' : List (List D)} (hw : wid 4 l) (hw' : wid 4 l') (hn : l.length ≤ 9223372036854775807) : CT Tryz.prog 77 [dS 4 (mZ l) sp, dS 4 (mZ l') sp'] (B (decide (l = l'))) := by
  by_cases hlen : l.length = l'.length
  · refine ZaC (l := []) (m := [(4, ZdK l l' sp sp')]) .nil mixed (Za7 rfl (by kernel_rfl) (ZkD hw hw' hlen hn)) Tryz.func77 rfl rfl rfl ?_
    rw [Zny]
    have : (((mZ l).length : Int) != ((mZ l').length : Int)) = false := by simp [Zaf, hlen]
    rw [this]
    by_cases he : l = l'
    · simp [he]
    · simp [he]
  · refine ZaC (l := []) (m := [(4, fun _ _ => False)]) .nil mixed (Za7 rfl (by kernel_rfl) (fun _ _ h => h.elim)) Tryz.func77 rfl rfl rfl ?_
    rw [Zlk]
    have : (((mZ l).length : Int) != ((mZ l').length : Int)) = true := by simp [Zaf]; omega
    rw [this]
    have : l ≠ l' := fun e => hlen (by rw [e])
    simp [this]
def Zfc : Spec := fun ds Q => match ds with | [.c (.s 0 4 R sp), .c (.s 0 4 R' sp')] => cond (okZ 4 R && okZ 4 R') (Q (B (decide (toZ R = toZ R')))) False | _ => False
theorem Zn4 : Zad Tryz.prog 77 Zfc := o_of Tryz.func77 (by kernel_rfl) rfl fun ds Q h => by
  unfold Zfc at h; split at h
  · rename_i R sp R' sp'
    obtain ⟨h1, h2⟩ := Zag h
    simp only [Bool.and_eq_true] at h1
    obtain ⟨e1, w1, n1⟩ := Zah h1.1
    obtain ⟨e2, w2, n2⟩ := Zah h1.2
    rw [e1, e2]
    rw [Zal R |>.symm] at n1
    generalize toZ R = l at *
    generalize toZ R' = l' at *
    exact ⟨_, Zn3 w1 w2 n1, rfl, rfl, h2⟩
  · exact h.elim
def ZaS (n kn : Nat) (i : Int) (W : List (List D)) : X := ⟨mkT 19 [(0, .c (.rs 1000000 0 4 0 n kn)), (2, ai i)], [(1000000, .sl 0 4 W)], [], []⟩
def Zdk (n kn : Nat) (y : X) : X := ZaS n kn (Zcn y 2) (Zih y 1000000)
theorem Zj5 (n kn : Nat) (i : Int) (W : List (List D)) (N : X → Prop) (E : Exit → X → Prop) : (ZaR band bor Tryz.prog [] [] Tryz.f125 0 [0, 2] [1000000] (Zdk n kn) (Zdk n kn) N E (ZaS n kn i W)) = (bif decide (i < @Nat.cast Int _ n) then bif decide (0 ≤ i) && decide (i < @Nat.cast Int _ n) then bif decide (addN (0) (Int.toNat i) < List.length W) then bif isJ [IntKind.i64] (List.drop (1) (List.getD W (addN (0) (Int.toNat i)) [])) then bif decide (0 ≤ i) && decide (i < @Nat.cast Int _ n) then bif decide (addN (0) (Int.toNat i) < List.length W) && decide (1 + 1 ≤ 4) then ZaS n kn (IntKind.wrap IntKind.i64 (i + 1)) (List.set W (addN (0) (Int.toNat i)) (splice (List.getD W (addN (0) (Int.toNat i)) []) (1) [D.v (Value.int IntKind.i64 (bxor (hdJ (List.drop (1) (List.getD W (addN (0) (Int.toNat i)) []))) (90)))])) = ZaS n kn (IntKind.wrap IntKind.i64 (i + 1)) (List.set W (addN (0) (Int.toNat i)) (splice (List.getD W (addN (0) (Int.toNat i)) []) (1) [D.v (Value.int IntKind.i64 (bxor (hdJ (List.drop (1) (List.getD W (addN (0) (Int.toNat i)) []))) (90)))])) ∧ N (ZaS n kn (IntKind.wrap IntKind.i64 (i + 1)) (List.set W (addN (0) (Int.toNat i)) (splice (List.getD W (addN (0) (Int.toNat i)) []) (1) [D.v (Value.int IntKind.i64 (bxor (hdJ (List.drop (1) (List.getD W (addN (0) (Int.toNat i)) []))) (90)))]))) else False else False else False else False else False else ZaS n kn i W = ZaS n kn i W ∧ E (Exit.exit (0)) (ZaS n kn i W)) := by kernel_rfl
-- the spoilt cell
def Zc2 (n kn : Nat) (W0 : List (List D)) : LSum := fun Q y => y.only [0, 2] [1000000] = ZaS n kn 0 W0 ∧ ∀ i W, Q (.exit 0) (ZaS n kn i W)
theorem Zly (R sp : List (List D)) (K : DV → Prop) : (askL Tryz.prog [] [(1, Zc2 R.length (R.length + sp.length) (R ++ sp))] Tryz.f125 [oS 4 R sp] K) = (ZaS (List.length R) (List.length R + List.length sp) (0) (R ++ sp) = ZaS (List.length R) (List.length R + List.length sp) (0) (R ++ sp) ∧ ∀ (i : Int) (W : List (List D)), K (DV.tup [])) := by kernel_rfl
theorem Zjx (K : DV → Prop) : (ask Tryz.prog [] Tryz.f125 [.c (.v (.slice none 0 0))] K) = (K (DV.tup [])) := by kernel_rfl
theorem Zif {n kn : Nat} {l : List (List Int)} (hw : wid 4 l) (hnl : n ≤ l.length) (hn : l.length ≤ 9223372036854775807) (Q : Exit → X → Prop) (x : X) (h : Zc2 n kn (mZ l) Q x) : XWP Tryz.prog (.loop (Zar Tryz.f125 0)) Q x := by
  obtain ⟨h1, h2⟩ := h
  refine ZaB (ι := Nat × List (List Int)) (H := hkA band bor [] []) (fn := Tryz.f125) (i := 0) (ts := [0, 2]) (ks := [1000000]) (ZaL .nil) mixed (Zai rfl)
    (fun p => ZaS n kn p.1 (mZ p.2)) (fun p => p.1 ≤ n ∧ wid 4 p.2 ∧ p.2.length = l.length) (fun p => n - p.1) (0, l) (Zdk n kn) (Zdk n kn) (fun p hp => ?_) ⟨Nat.zero_le _, hw, rfl⟩ h1
  obtain ⟨i, m⟩ := p
  obtain ⟨hi, hm, hml⟩ := hp
  simp only at hi hm hml ⊢
  show ZaR band bor Tryz.prog _ _ Tryz.f125 0 _ _ _ _ _ _ _
  rw [Zj5]
  by_cases hl : i < n
  · have wi : IntKind.wrap .i64 ((i : Int) + 1) = ((i + 1 : Nat) : Int) := Zan (n := 1) (by omega)
    have hlm : i < m.length := by omega
    have hj := ZbR (j := 1) hm hlm (by omega)
    have hrow := ZaA hm hlm
    have hd1 : (1 + 1 ≤ 4) = True := by simp
    simp only [Int.ofNat_lt, hl, decide_true, cond_true, Int.natCast_nonneg, Bool.and_self, Int.toNat_natCast, addN, Zaf, hlm, hj, ZbL, wi, hd1, true_and]
    rw [ZdC, Zgo _ _ _ (by omega), ZhB]
    exact ⟨(i + 1, _), by simp; omega, ⟨hl, ZgX hm (by rw [List.length_set, hrow]), by rw [List.length_set, hml]⟩, rfl⟩
  · have e : ¬ ((i : Int) < (n : Int)) := by omega
    simp only [e, decide_false, cond_false, true_and]
    exact h2 _ _
def Zec : Spec := fun ds Q => match ds with
  | [.c (.s 1 4 R sp)] => cond (okZ 4 (R ++ sp)) (Q (.tup [])) False
  | [.c (.v (.slice none 0 0))] => Q (.tup [])
  | _ => False
theorem Zlz : Zad Tryz.prog 125 Zec := o_of Tryz.func125 (by kernel_rfl) rfl fun ds Q h => by
  unfold Zec at h; split at h
  · rename_i R sp
    obtain ⟨h1, h2⟩ := Zag h
    obtain ⟨e1, w1, n1⟩ := Zah h1
    refine ⟨_, ZaC (l := []) (m := [(1, Zc2 R.length (R.length + sp.length) (R ++ sp))]) .nil mixed (Za7 rfl (by kernel_rfl) (by rw [e1]; exact Zif w1 (by rw [Zal]; simp) (by rw [Zal]; exact n1))) Tryz.func125 rfl rfl (by simp [DV.fit32, DV.width]) ?_, rfl, rfl, h2⟩
    rw [Zly]
    exact ⟨rfl, fun _ _ => rfl⟩
  · refine ⟨_, Zak .nil mixed Tryz.func125 rfl rfl rfl ?_, rfl, rfl, h⟩
    rw [Zjx]
  · exact h.elim
theorem ZkN (R sp : List (List D)) (K : DV → Prop) : (ask Tryz.prog [] Tryz.f90 [dS 4 R sp] K) = ((bif Nat.beq (List.length R) (OfNat.ofNat (0)) then K (DV.c (D.s (1) (4) [] [])) else True) ∧ bif allV R then bif true && (decide ((0 + List.length R) * 32 ≤ 140737488355328) && decide (0 + List.length R ≤ 9223372036854775807)) then bif decide (0 + List.length R ≤ List.length ([] ++ R)) && List.all ([] ++ R) fun r => List.all r D.keeps then K (DV.c (D.s (1) (4) (List.take (0 + List.length R) ([] ++ R)) (List.take (0 + List.length R - (0 + List.length R)) (List.drop (0 + List.length R) ([] ++ R))))) else False else False else False) := by kernel_rfl
def Zd9 : Spec := fun ds Q => match ds with | [.c (.s 0 4 R sp)] => cond (allV R && decide (R.length ≤ 4398046510977)) (Q (.c (.s 1 4 R []))) False | _ => False
theorem Zl6 : Zad Tryz.prog 90 Zd9 := o_of Tryz.func90 (by kernel_rfl) rfl fun ds Q h => by
  unfold Zd9 at h; split at h
  · rename_i R sp
    obtain ⟨h1, h2⟩ := Zag h
    simp only [Bool.and_eq_true, decide_eq_true_eq] at h1
    refine ⟨_, Zak .nil mixed Tryz.func90 rfl rfl rfl ?_, by simp [DV.pureOwn, DV.pure1, D.pureOwn, ZaQ h1.1]; rfl, rfl, h2⟩
    rw [ZkN]
    have g1 : (0 + R.length) * 32 ≤ 140737488355328 := by omega
    have g2 : 0 + R.length ≤ 9223372036854775807 := by omega
    refine ⟨?_, ?_⟩
    · cases R with
      | nil => exact (rfl : DV.c (D.s 1 4 [] []) = DV.c (D.s 1 4 [] []))
      | cons r R => exact trivial
    · simp [h1.1, Zaq h1.1]
      exact ⟨by omega, by omega⟩
  · exact h.elim
def ZaF (R sp R' sp' : List (List D)) (i : Int) (p : Bool) : X := ⟨mkT 26 [(0, aS 3 R sp), (1, aS 3 R' sp'), (4, ab p), (5, ai i)], [], [], []⟩
def Zd2 (R sp R' sp' : List (List D)) (y : X) : X := ZaF R sp R' sp' (Zcn y 5) (ZjQ y 4)
theorem Zmc (R sp R' sp' : List (List D)) (i : Int) (p : Bool) (N : X → Prop) (E : Exit → X → Prop) : (ZaR band bor Tryz.prog [] [] Tryz.f42 0 [0, 1, 4, 5] [] (Zd2 R sp R' sp') (Zd2 R sp R' sp') N E (ZaF R sp R' sp' i p)) = (bif decide (i < @Nat.cast Int _ (List.length R)) then bif decide (0 ≤ i) && decide (i < @Nat.cast Int _ (List.length R)) then bif isJ [IntKind.i64, IntKind.i64, IntKind.i64] (List.drop (0) (List.getD R (Int.toNat i) [])) then bif decide (0 ≤ i) && decide (i < @Nat.cast Int _ (List.length R')) then bif isJ [IntKind.i64, IntKind.i64, IntKind.i64] (List.drop (0) (List.getD R' (Int.toNat i) [])) then bif !eqI [hdJ (List.drop (0) (List.getD R (Int.toNat i) [])), hdJ (List.tail (List.drop (0) (List.getD R (Int.toNat i) []))), hdJ (List.tail (List.tail (List.drop (0) (List.getD R (Int.toNat i) []))))] [hdJ (List.drop (0) (List.getD R' (Int.toNat i) [])), hdJ (List.tail (List.drop (0) (List.getD R' (Int.toNat i) []))), hdJ (List.tail (List.tail (List.drop (0) (List.getD R' (Int.toNat i) []))))] then ZaF R sp R' sp' i false = ZaF R sp R' sp' i false ∧ E Exit.ret (ZaF R sp R' sp' i false) else ZaF R sp R' sp' (IntKind.wrap IntKind.i64 (i + 1)) p = ZaF R sp R' sp' (IntKind.wrap IntKind.i64 (i + 1)) p ∧ N (ZaF R sp R' sp' (IntKind.wrap IntKind.i64 (i + 1)) p) else False else False else False else False else ZaF R sp R' sp' i p = ZaF R sp R' sp' i p ∧ E (Exit.exit (0)) (ZaF R sp R' sp' i p)) := by kernel_rfl
def ZdP (l l' : List (List Int)) (sp sp' : List (List D)) : LSum := fun Q x => x.only [0, 1, 4, 5] [] = ZaF (mZ l) sp (mZ l') sp' 0 false ∧ (l = l' → Q (.exit 0) (ZaF (mZ l) sp (mZ l') sp' l.length false)) ∧ (l ≠ l' → ∀ i : Int, Q .ret (ZaF (mZ l) sp (mZ l') sp' i false))
theorem ZnT (l l' : List (List Int)) (sp sp' : List (List D)) (K : DV → Prop) : (askL Tryz.prog [] [(4, ZdP l l' sp sp')] Tryz.f42 [dS 3 (mZ l) sp, dS 3 (mZ l') sp'] K) = (bif @Nat.cast Int _ (List.length (mZ l)) != @Nat.cast Int _ (List.length (mZ l')) then K (DV.c (D.v (Value.bool false))) else ZaF (mZ l) sp (mZ l') sp' (0) false = ZaF (mZ l) sp (mZ l') sp' (0) false ∧ (l = l' → K (DV.c (D.v (Value.bool true)))) ∧ (l ≠ l' → ∀ (i : Int), K (DV.c (D.v (Value.bool false))))) := by kernel_rfl
theorem ZlH (l l' : List (List Int)) (sp sp' : List (List D)) (K : DV → Prop) : (askL Tryz.prog [] [(4, fun _ _ => False)] Tryz.f42 [dS 3 (mZ l) sp, dS 3 (mZ l') sp'] K) = (bif @Nat.cast Int _ (List.length (mZ l)) != @Nat.cast Int _ (List.length (mZ l')) then K (DV.c (D.v (Value.bool false))) else False) := by kernel_rfl
theorem ZjC {l l' : List (List Int)} {sp sp' : List (List D)} (hw : wid 3 l) (hw' : wid 3 l') (hlen : l.length = l'.length) (hn : l.length ≤ 9223372036854775807) (Q : Exit → X → Prop) (x : X) (h : ZdP l l' sp sp' Q x) : XWP Tryz.prog (.loop (Zar Tryz.f42 0)) Q x := by
  obtain ⟨h1, h2, h3⟩ := h
  refine ZaB (ι := Nat) (H := hkA band bor [] []) (fn := Tryz.f42) (i := 0) (ts := [0, 1, 4, 5]) (ks := []) (ZaL .nil) mixed (Zai rfl)
    (fun i => ZaF (mZ l) sp (mZ l') sp' i false) (fun i => i ≤ l.length ∧ ∀ j, j < i → l.getD j [] = l'.getD j []) (fun i => l.length - i) 0 (Zd2 (mZ l) sp (mZ l') sp') (Zd2 (mZ l) sp (mZ l') sp') (fun i hp => ?_) ⟨Nat.zero_le _, fun j hj => by omega⟩ h1
  obtain ⟨hi, hj⟩ := hp
  show ZaR band bor Tryz.prog _ _ Tryz.f42 0 _ _ _ _ _ _ _
  rw [Zmc]
  by_cases hl : i < l.length
  · have wi : IntKind.wrap .i64 ((i : Int) + 1) = ((i + 1 : Nat) : Int) := Zan (n := 1) (by omega)
    have hl' : i < l'.length := by omega
    have hj1 : isJ [IntKind.i64, IntKind.i64, IntKind.i64] ((mZ l).getD i []) = true := Zav (j := 0) (n := 3) hw hl (by omega)
    have hj2 : isJ [IntKind.i64, IntKind.i64, IntKind.i64] ((mZ l').getD i []) = true := Zav (j := 0) (n := 3) hw' hl' (by omega)
    have he := ZeZ (l.getD i []) (l'.getD i []) (by rw [ZaA hw hl, ZaA hw' hl'])
    rw [← row3 (ZaA hw hl), ← row3 (ZaA hw' hl')] at he
    simp only [Zaf, Int.ofNat_lt, hl, hl', decide_true, cond_true, Int.natCast_nonneg, Bool.and_self, Int.toNat_natCast, ZaM, ZaO, Zbo, hj1, hj2, List.drop_zero, ZaJ, true_and, wi, he]
    rw [row3 (ZaA hw hl), row3 (ZaA hw' hl')]
    by_cases hee : l.getD i [] = l'.getD i []
    · rw [decide_eq_true hee]
      refine ⟨i + 1, by omega, ⟨hl, fun j hji => ?_⟩, rfl⟩
      rcases Nat.lt_succ_iff_lt_or_eq.1 hji with hji | rfl
      · exact hj j hji
      · exact hee
    · rw [decide_eq_false hee]
      exact h3 (fun e => hee (by rw [e])) _
  · have e : i = l.length := by omega
    subst e
    simp only [Zaf, Int.ofNat_lt, Nat.lt_irrefl, decide_false, cond_false, true_and]
    exact h2 (Zez hlen fun j h => hj j h)
theorem Znn {l l' : List (List Int)} {sp sp' : List (List D)} (hw : wid 3 l) (hw' : wid 3 l') (hn : l.length ≤ 9223372036854775807) : CT Tryz.prog 42 [dS 3 (mZ l) sp, dS 3 (mZ l') sp'] (B (decide (l = l'))) := by
  by_cases hlen : l.length = l'.length
  · refine ZaC (l := []) (m := [(4, ZdP l l' sp sp')]) .nil mixed (Za7 rfl (by kernel_rfl) (ZjC hw hw' hlen hn)) Tryz.func42 rfl rfl rfl ?_
    rw [ZnT]
    have : (((mZ l).length : Int) != ((mZ l').length : Int)) = false := by simp [Zaf, hlen]
    rw [this]
    by_cases he : l = l'
    · simp [he]
    · simp [he]
  · refine ZaC (l := []) (m := [(4, fun _ _ => False)]) .nil mixed (Za7 rfl (by kernel_rfl) (fun _ _ h => h.elim)) Tryz.func42 rfl rfl rfl ?_
    rw [ZlH]
    have : (((mZ l).length : Int) != ((mZ l').length : Int)) = true := by simp [Zaf]; omega
    rw [this]
    have : l ≠ l' := fun e => hlen (by rw [e])
    simp [this]
def Ze1 : Spec := fun ds Q => match ds with | [.c (.s 0 3 R sp), .c (.s 0 3 R' sp')] => cond (okZ 3 R && okZ 3 R') (Q (B (decide (toZ R = toZ R')))) False | _ => False
theorem ZnC : Zad Tryz.prog 42 Ze1 := o_of Tryz.func42 (by kernel_rfl) rfl fun ds Q h => by
  unfold Ze1 at h; split at h
  · rename_i R sp R' sp'
    obtain ⟨h1, h2⟩ := Zag h
    simp only [Bool.and_eq_true] at h1
    obtain ⟨e1, w1, n1⟩ := Zah h1.1
    obtain ⟨e2, w2, n2⟩ := Zah h1.2
    rw [e1, e2]
    rw [Zal R |>.symm] at n1
    generalize toZ R = l at *
    generalize toZ R' = l' at *
    exact ⟨_, Znn w1 w2 n1, rfl, rfl, h2⟩
  · exact h.elim
def ZaT (n kn : Nat) (i : Int) (W : List (List D)) : X := ⟨mkT 19 [(0, .c (.rs 1000000 0 3 0 n kn)), (2, ai i)], [(1000000, .sl 0 3 W)], [], []⟩
def Zdl (n kn : Nat) (y : X) : X := ZaT n kn (Zcn y 2) (Zih y 1000000)
theorem ZjE (n kn : Nat) (i : Int) (W : List (List D)) (N : X → Prop) (E : Exit → X → Prop) : (ZaR band bor Tryz.prog [] [] Tryz.f126 0 [0, 2] [1000000] (Zdl n kn) (Zdl n kn) N E (ZaT n kn i W)) = (bif decide (i < @Nat.cast Int _ n) then bif decide (0 ≤ i) && decide (i < @Nat.cast Int _ n) then bif decide (addN (0) (Int.toNat i) < List.length W) then bif isJ [IntKind.i64] (List.drop (1) (List.getD W (addN (0) (Int.toNat i)) [])) then bif decide (0 ≤ i) && decide (i < @Nat.cast Int _ n) then bif decide (addN (0) (Int.toNat i) < List.length W) && decide (1 + 1 ≤ 3) then ZaT n kn (IntKind.wrap IntKind.i64 (i + 1)) (List.set W (addN (0) (Int.toNat i)) (splice (List.getD W (addN (0) (Int.toNat i)) []) (1) [D.v (Value.int IntKind.i64 (bxor (hdJ (List.drop (1) (List.getD W (addN (0) (Int.toNat i)) []))) (90)))])) = ZaT n kn (IntKind.wrap IntKind.i64 (i + 1)) (List.set W (addN (0) (Int.toNat i)) (splice (List.getD W (addN (0) (Int.toNat i)) []) (1) [D.v (Value.int IntKind.i64 (bxor (hdJ (List.drop (1) (List.getD W (addN (0) (Int.toNat i)) []))) (90)))])) ∧ N (ZaT n kn (IntKind.wrap IntKind.i64 (i + 1)) (List.set W (addN (0) (Int.toNat i)) (splice (List.getD W (addN (0) (Int.toNat i)) []) (1) [D.v (Value.int IntKind.i64 (bxor (hdJ (List.drop (1) (List.getD W (addN (0) (Int.toNat i)) []))) (90)))]))) else False else False else False else False else False else ZaT n kn i W = ZaT n kn i W ∧ E (Exit.exit (0)) (ZaT n kn i W)) := by kernel_rfl
-- the spoilt cell
def Zdh (n kn : Nat) (W0 : List (List D)) : LSum := fun Q y => y.only [0, 2] [1000000] = ZaT n kn 0 W0 ∧ ∀ i W, Q (.exit 0) (ZaT n kn i W)
theorem Zmh (R sp : List (List D)) (K : DV → Prop) : (askL Tryz.prog [] [(1, Zdh R.length (R.length + sp.length) (R ++ sp))] Tryz.f126 [oS 3 R sp] K) = (ZaT (List.length R) (List.length R + List.length sp) (0) (R ++ sp) = ZaT (List.length R) (List.length R + List.length sp) (0) (R ++ sp) ∧ ∀ (i : Int) (W : List (List D)), K (DV.tup [])) := by kernel_rfl
theorem ZjS (K : DV → Prop) : (ask Tryz.prog [] Tryz.f126 [.c (.v (.slice none 0 0))] K) = (K (DV.tup [])) := by kernel_rfl
theorem ZiD {n kn : Nat} {l : List (List Int)} (hw : wid 3 l) (hnl : n ≤ l.length) (hn : l.length ≤ 9223372036854775807) (Q : Exit → X → Prop) (x : X) (h : Zdh n kn (mZ l) Q x) : XWP Tryz.prog (.loop (Zar Tryz.f126 0)) Q x := by
  obtain ⟨h1, h2⟩ := h
  refine ZaB (ι := Nat × List (List Int)) (H := hkA band bor [] []) (fn := Tryz.f126) (i := 0) (ts := [0, 2]) (ks := [1000000]) (ZaL .nil) mixed (Zai rfl)
    (fun p => ZaT n kn p.1 (mZ p.2)) (fun p => p.1 ≤ n ∧ wid 3 p.2 ∧ p.2.length = l.length) (fun p => n - p.1) (0, l) (Zdl n kn) (Zdl n kn) (fun p hp => ?_) ⟨Nat.zero_le _, hw, rfl⟩ h1
  obtain ⟨i, m⟩ := p
  obtain ⟨hi, hm, hml⟩ := hp
  simp only at hi hm hml ⊢
  show ZaR band bor Tryz.prog _ _ Tryz.f126 0 _ _ _ _ _ _ _
  rw [ZjE]
  by_cases hl : i < n
  · have wi : IntKind.wrap .i64 ((i : Int) + 1) = ((i + 1 : Nat) : Int) := Zan (n := 1) (by omega)
    have hlm : i < m.length := by omega
    have hj := ZbR (j := 1) hm hlm (by omega)
    have hrow := ZaA hm hlm
    have hd1 : (1 + 1 ≤ 3) = True := by simp
    simp only [Int.ofNat_lt, hl, decide_true, cond_true, Int.natCast_nonneg, Bool.and_self, Int.toNat_natCast, addN, Zaf, hlm, hj, ZbL, wi, hd1, true_and]
    rw [ZdC, Zgo _ _ _ (by omega), ZhB]
    exact ⟨(i + 1, _), by simp; omega, ⟨hl, ZgX hm (by rw [List.length_set, hrow]), by rw [List.length_set, hml]⟩, rfl⟩
  · have e : ¬ ((i : Int) < (n : Int)) := by omega
    simp only [e, decide_false, cond_false, true_and]
    exact h2 _ _
def Zeb : Spec := fun ds Q => match ds with
  | [.c (.s 1 3 R sp)] => cond (okZ 3 (R ++ sp)) (Q (.tup [])) False
  | [.c (.v (.slice none 0 0))] => Q (.tup [])
  | _ => False
theorem Zlw : Zad Tryz.prog 126 Zeb := o_of Tryz.func126 (by kernel_rfl) rfl fun ds Q h => by
  unfold Zeb at h; split at h
  · rename_i R sp
    obtain ⟨h1, h2⟩ := Zag h
    obtain ⟨e1, w1, n1⟩ := Zah h1
    refine ⟨_, ZaC (l := []) (m := [(1, Zdh R.length (R.length + sp.length) (R ++ sp))]) .nil mixed (Za7 rfl (by kernel_rfl) (by rw [e1]; exact ZiD w1 (by rw [Zal]; simp) (by rw [Zal]; exact n1))) Tryz.func126 rfl rfl (by simp [DV.fit32, DV.width]) ?_, rfl, rfl, h2⟩
    rw [Zmh]
    exact ⟨rfl, fun _ _ => rfl⟩
  · refine ⟨_, Zak .nil mixed Tryz.func126 rfl rfl rfl ?_, rfl, rfl, h⟩
    rw [ZjS]
  · exact h.elim
theorem Zme (R sp : List (List D)) (K : DV → Prop) : (ask Tryz.prog [] Tryz.f149 [dS 3 R sp] K) = ((bif Nat.beq (List.length R) (OfNat.ofNat (0)) then K (DV.c (D.s (1) (3) [] [])) else True) ∧ bif allV R then bif true && (decide ((0 + List.length R) * 24 ≤ 140737488355328) && decide (0 + List.length R ≤ 9223372036854775807)) then bif decide (0 + List.length R ≤ List.length ([] ++ R)) && List.all ([] ++ R) fun r => List.all r D.keeps then K (DV.c (D.s (1) (3) (List.take (0 + List.length R) ([] ++ R)) (List.take (0 + List.length R - (0 + List.length R)) (List.drop (0 + List.length R) ([] ++ R))))) else False else False else False) := by kernel_rfl
def Zeh : Spec := fun ds Q => match ds with | [.c (.s 0 3 R sp)] => cond (allV R && decide (R.length ≤ 5864062014635)) (Q (.c (.s 1 3 R []))) False | _ => False
theorem Zk8 : Zad Tryz.prog 149 Zeh := o_of Tryz.func149 (by kernel_rfl) rfl fun ds Q h => by
  unfold Zeh at h; split at h
  · rename_i R sp
    obtain ⟨h1, h2⟩ := Zag h
    simp only [Bool.and_eq_true, decide_eq_true_eq] at h1
    refine ⟨_, Zak .nil mixed Tryz.func149 rfl rfl rfl ?_, by simp [DV.pureOwn, DV.pure1, D.pureOwn, ZaQ h1.1]; rfl, rfl, h2⟩
    rw [Zme]
    have g1 : (0 + R.length) * 24 ≤ 140737488355328 := by omega
    have g2 : 0 + R.length ≤ 9223372036854775807 := by omega
    refine ⟨?_, ?_⟩
    · cases R with
      | nil => exact (rfl : DV.c (D.s 1 3 [] []) = DV.c (D.s 1 3 [] []))
      | cons r R => exact trivial
    · simp [h1.1, Zaq h1.1]
      exact ⟨by omega, by omega⟩
  · exact h.elim
def Zax (R sp R' sp' : List (List D)) (i : Int) (p : Bool) : X := ⟨mkT 26 [(0, aS 3 R sp), (1, aS 3 R' sp'), (4, ab p), (5, ai i)], [], [], []⟩
def Zdn (R sp R' sp' : List (List D)) (y : X) : X := Zax R sp R' sp' (Zcn y 5) (ZjQ y 4)
theorem Zkf (R sp R' sp' : List (List D)) (i : Int) (p : Bool) (N : X → Prop) (E : Exit → X → Prop) : (ZaR band bor Tryz.prog [] [] Tryz.f45 0 [0, 1, 4, 5] [] (Zdn R sp R' sp') (Zdn R sp R' sp') N E (Zax R sp R' sp' i p)) = (bif decide (i < @Nat.cast Int _ (List.length R)) then bif decide (0 ≤ i) && decide (i < @Nat.cast Int _ (List.length R)) then bif isJ [IntKind.i64, IntKind.i64, IntKind.i64] (List.drop (0) (List.getD R (Int.toNat i) [])) then bif decide (0 ≤ i) && decide (i < @Nat.cast Int _ (List.length R')) then bif isJ [IntKind.i64, IntKind.i64, IntKind.i64] (List.drop (0) (List.getD R' (Int.toNat i) [])) then bif !eqI [hdJ (List.drop (0) (List.getD R (Int.toNat i) [])), hdJ (List.tail (List.drop (0) (List.getD R (Int.toNat i) []))), hdJ (List.tail (List.tail (List.drop (0) (List.getD R (Int.toNat i) []))))] [hdJ (List.drop (0) (List.getD R' (Int.toNat i) [])), hdJ (List.tail (List.drop (0) (List.getD R' (Int.toNat i) []))), hdJ (List.tail (List.tail (List.drop (0) (List.getD R' (Int.toNat i) []))))] then Zax R sp R' sp' i false = Zax R sp R' sp' i false ∧ E Exit.ret (Zax R sp R' sp' i false) else Zax R sp R' sp' (IntKind.wrap IntKind.i64 (i + 1)) p = Zax R sp R' sp' (IntKind.wrap IntKind.i64 (i + 1)) p ∧ N (Zax R sp R' sp' (IntKind.wrap IntKind.i64 (i + 1)) p) else False else False else False else False else Zax R sp R' sp' i p = Zax R sp R' sp' i p ∧ E (Exit.exit (0)) (Zax R sp R' sp' i p)) := by kernel_rfl
def Zdr (l l' : List (List Int)) (sp sp' : List (List D)) : LSum := fun Q x => x.only [0, 1, 4, 5] [] = Zax (mZ l) sp (mZ l') sp' 0 false ∧ (l = l' → Q (.exit 0) (Zax (mZ l) sp (mZ l') sp' l.length false)) ∧ (l ≠ l' → ∀ i : Int, Q .ret (Zax (mZ l) sp (mZ l') sp' i false))
theorem Zl9 (l l' : List (List Int)) (sp sp' : List (List D)) (K : DV → Prop) : (askL Tryz.prog [] [(4, Zdr l l' sp sp')] Tryz.f45 [dS 3 (mZ l) sp, dS 3 (mZ l') sp'] K) = (bif @Nat.cast Int _ (List.length (mZ l)) != @Nat.cast Int _ (List.length (mZ l')) then K (DV.c (D.v (Value.bool false))) else Zax (mZ l) sp (mZ l') sp' (0) false = Zax (mZ l) sp (mZ l') sp' (0) false ∧ (l = l' → K (DV.c (D.v (Value.bool true)))) ∧ (l ≠ l' → ∀ (i : Int), K (DV.c (D.v (Value.bool false))))) := by kernel_rfl
theorem ZjK (l l' : List (List Int)) (sp sp' : List (List D)) (K : DV → Prop) : (askL Tryz.prog [] [(4, fun _ _ => False)] Tryz.f45 [dS 3 (mZ l) sp, dS 3 (mZ l') sp'] K) = (bif @Nat.cast Int _ (List.length (mZ l)) != @Nat.cast Int _ (List.length (mZ l')) then K (DV.c (D.v (Value.bool false))) else False) := by kernel_rfl
theorem Ziu {l l' : List (List Int)} {sp sp' : List (List D)} (hw : wid 3 l) (hw' : wid 3 l') (hlen : l.length = l'.length) (hn : l.length ≤ 9223372036854775807) (Q : Exit → X → Prop) (x : X) (h : Zdr l l' sp sp' Q x) : XWP Tryz.prog (.loop (Zar Tryz.f45 0)) Q x := by
  obtain ⟨h1, h2, h3⟩ := h
  refine ZaB (ι := Nat) (H := hkA band bor [] []) (fn := Tryz.f45) (i := 0) (ts := [0, 1, 4, 5]) (ks := []) (ZaL .nil) mixed (Zai rfl)
    (fun i => Zax (mZ l) sp (mZ l') sp' i false) (fun i => i ≤ l.length ∧ ∀ j, j < i → l.getD j [] = l'.getD j []) (fun i => l.length - i) 0 (Zdn (mZ l) sp (mZ l') sp') (Zdn (mZ l) sp (mZ l') sp') (fun i hp => ?_) ⟨Nat.zero_le _, fun j hj => by omega⟩ h1
  obtain ⟨hi, hj⟩ := hp
  show ZaR band bor Tryz.prog _ _ Tryz.f45 0 _ _ _ _ _ _ _
  rw [Zkf]
  by_cases hl : i < l.length
  · have wi : IntKind.wrap .i64 ((i : Int) + 1) = ((i + 1 : Nat) : Int) := Zan (n := 1) (by omega)
    have hl' : i < l'.length := by omega
    have hj1 : isJ [IntKind.i64, IntKind.i64, IntKind.i64] ((mZ l).getD i []) = true := Zav (j := 0) (n := 3) hw hl (by omega)
    have hj2 : isJ [IntKind.i64, IntKind.i64, IntKind.i64] ((mZ l').getD i []) = true := Zav (j := 0) (n := 3) hw' hl' (by omega)
    have he := ZeZ (l.getD i []) (l'.getD i []) (by rw [ZaA hw hl, ZaA hw' hl'])
    rw [← row3 (ZaA hw hl), ← row3 (ZaA hw' hl')] at he
    simp only [Zaf, Int.ofNat_lt, hl, hl', decide_true, cond_true, Int.natCast_nonneg, Bool.and_self, Int.toNat_natCast, ZaM, ZaO, Zbo, hj1, hj2, List.drop_zero, ZaJ, true_and, wi, he]
    rw [row3 (ZaA hw hl), row3 (ZaA hw' hl')]
    by_cases hee : l.getD i [] = l'.getD i []
    · rw [decide_eq_true hee]
      refine ⟨i + 1, by omega, ⟨hl, fun j hji => ?_⟩, rfl⟩
      rcases Nat.lt_succ_iff_lt_or_eq.1 hji with hji | rfl
      · exact hj j hji
      · exact hee
    · rw [decide_eq_false hee]
      exact h3 (fun e => hee (by rw [e])) _
  · have e : i = l.length := by omega
    subst e
    simp only [Zaf, Int.ofNat_lt, Nat.lt_irrefl, decide_false, cond_false, true_and]
    exact h2 (Zez hlen fun j h => hj j h)
theorem Zln {l l' : List (List Int)} {sp sp' : List (List D)} (hw : wid 3 l) (hw' : wid 3 l') (hn : l.length ≤ 9223372036854775807) : CT Tryz.prog 45 [dS 3 (mZ l) sp, dS 3 (mZ l') sp'] (B (decide (l = l'))) := by
  by_cases hlen : l.length = l'.length
  · refine ZaC (l := []) (m := [(4, Zdr l l' sp sp')]) .nil mixed (Za7 rfl (by kernel_rfl) (Ziu hw hw' hlen hn)) Tryz.func45 rfl rfl rfl ?_
    rw [Zl9]
    have : (((mZ l).length : Int) != ((mZ l').length : Int)) = false := by simp [Zaf, hlen]
    rw [this]
    by_cases he : l = l'
    · simp [he]
    · simp [he]
  · refine ZaC (l := []) (m := [(4, fun _ _ => False)]) .nil mixed (Za7 rfl (by kernel_rfl) (fun _ _ h => h.elim)) Tryz.func45 rfl rfl rfl ?_
    rw [ZjK]
    have : (((mZ l).length : Int) != ((mZ l').length : Int)) = true := by simp [Zaf]; omega
    rw [this]
    have : l ≠ l' := fun e => hlen (by rw [e])
    simp [this]
def Zdm : Spec := fun ds Q => match ds with | [.c (.s 0 3 R sp), .c (.s 0 3 R' sp')] => cond (okZ 3 R && okZ 3 R') (Q (B (decide (toZ R = toZ R')))) False | _ => False
theorem ZgN : Zad Tryz.prog 45 Zdm := o_of Tryz.func45 (by kernel_rfl) rfl fun ds Q h => by
  unfold Zdm at h; split at h
  · rename_i R sp R' sp'
    obtain ⟨h1, h2⟩ := Zag h
    simp only [Bool.and_eq_true] at h1
    obtain ⟨e1, w1, n1⟩ := Zah h1.1
    obtain ⟨e2, w2, n2⟩ := Zah h1.2
    rw [e1, e2]
    rw [Zal R |>.symm] at n1
    generalize toZ R = l at *
    generalize toZ R' = l' at *
    exact ⟨_, Zln w1 w2 n1, rfl, rfl, h2⟩
  · exact h.elim
def ZaI (n kn : Nat) (i : Int) (W : List (List D)) : X := ⟨mkT 19 [(0, .c (.rs 1000000 0 3 0 n kn)), (2, ai i)], [(1000000, .sl 0 3 W)], [], []⟩
def Zcz (n kn : Nat) (y : X) : X := ZaI n kn (Zcn y 2) (Zih y 1000000)
theorem ZiZ (n kn : Nat) (i : Int) (W : List (List D)) (N : X → Prop) (E : Exit → X → Prop) : (ZaR band bor Tryz.prog [] [] Tryz.f127 0 [0, 2] [1000000] (Zcz n kn) (Zcz n kn) N E (ZaI n kn i W)) = (bif decide (i < @Nat.cast Int _ n) then bif decide (0 ≤ i) && decide (i < @Nat.cast Int _ n) then bif decide (addN (0) (Int.toNat i) < List.length W) then bif isJ [IntKind.i64] (List.drop (1) (List.getD W (addN (0) (Int.toNat i)) [])) then bif decide (0 ≤ i) && decide (i < @Nat.cast Int _ n) then bif decide (addN (0) (Int.toNat i) < List.length W) && decide (1 + 1 ≤ 3) then ZaI n kn (IntKind.wrap IntKind.i64 (i + 1)) (List.set W (addN (0) (Int.toNat i)) (splice (List.getD W (addN (0) (Int.toNat i)) []) (1) [D.v (Value.int IntKind.i64 (bxor (hdJ (List.drop (1) (List.getD W (addN (0) (Int.toNat i)) []))) (90)))])) = ZaI n kn (IntKind.wrap IntKind.i64 (i + 1)) (List.set W (addN (0) (Int.toNat i)) (splice (List.getD W (addN (0) (Int.toNat i)) []) (1) [D.v (Value.int IntKind.i64 (bxor (hdJ (List.drop (1) (List.getD W (addN (0) (Int.toNat i)) []))) (90)))])) ∧ N (ZaI n kn (IntKind.wrap IntKind.i64 (i + 1)) (List.set W (addN (0) (Int.toNat i)) (splice (List.getD W (addN (0) (Int.toNat i)) []) (1) [D.v (Value.int IntKind.i64 (bxor (hdJ (List.drop (1) (List.getD W (addN (0) (Int.toNat i)) []))) (90)))]))) else False else False else False else False else False else ZaI n kn i W = ZaI n kn i W ∧ E (Exit.exit (0)) (ZaI n kn i W)) := by kernel_rfl
-- the spoilt cell
def ZcJ (n kn : Nat) (W0 : List (List D)) : LSum := fun Q y => y.only [0, 2] [1000000] = ZaI n kn 0 W0 ∧ ∀ i W, Q (.exit 0) (ZaI n kn i W)
theorem ZjA (R sp : List (List D)) (K : DV → Prop) : (askL Tryz.prog [] [(1, ZcJ R.length (R.length + sp.length) (R ++ sp))] Tryz.f127 [oS 3 R sp] K) = (ZaI (List.length R) (List.length R + List.length sp) (0) (R ++ sp) = ZaI (List.length R) (List.length R + List.length sp) (0) (R ++ sp) ∧ ∀ (i : Int) (W : List (List D)), K (DV.tup [])) := by kernel_rfl
theorem ZiC (K : DV → Prop) : (ask Tryz.prog [] Tryz.f127 [.c (.v (.slice none 0 0))] K) = (K (DV.tup [])) := by kernel_rfl
theorem Zhj {n kn : Nat} {l : List (List Int)} (hw : wid 3 l) (hnl : n ≤ l.length) (hn : l.length ≤ 9223372036854775807) (Q : Exit → X → Prop) (x : X) (h : ZcJ n kn (mZ l) Q x) : XWP Tryz.prog (.loop (Zar Tryz.f127 0)) Q x := by
  obtain ⟨h1, h2⟩ := h
  refine ZaB (ι := Nat × List (List Int)) (H := hkA band bor [] []) (fn := Tryz.f127) (i := 0) (ts := [0, 2]) (ks := [1000000]) (ZaL .nil) mixed (Zai rfl)
    (fun p => ZaI n kn p.1 (mZ p.2)) (fun p => p.1 ≤ n ∧ wid 3 p.2 ∧ p.2.length = l.length) (fun p => n - p.1) (0, l) (Zcz n kn) (Zcz n kn) (fun p hp => ?_) ⟨Nat.zero_le _, hw, rfl⟩ h1
  obtain ⟨i, m⟩ := p
  obtain ⟨hi, hm, hml⟩ := hp
  simp only at hi hm hml ⊢
  show ZaR band bor Tryz.prog _ _ Tryz.f127 0 _ _ _ _ _ _ _
  rw [ZiZ]
  by_cases hl : i < n
  · have wi : IntKind.wrap .i64 ((i : Int) + 1) = ((i + 1 : Nat) : Int) := Zan (n := 1) (by omega)
    have hlm : i < m.length := by omega
    have hj := ZbR (j := 1) hm hlm (by omega)
    have hrow := ZaA hm hlm
    have hd1 : (1 + 1 ≤ 3) = True := by simp
    simp only [Int.ofNat_lt, hl, decide_true, cond_true, Int.natCast_nonneg, Bool.and_self, Int.toNat_natCast, addN, Zaf, hlm, hj, ZbL, wi, hd1, true_and]
    rw [ZdC, Zgo _ _ _ (by omega), ZhB]
    exact ⟨(i + 1, _), by simp; omega, ⟨hl, ZgX hm (by rw [List.length_set, hrow]), by rw [List.length_set, hml]⟩, rfl⟩
  · have e : ¬ ((i : Int) < (n : Int)) := by omega
    simp only [e, decide_false, cond_false, true_and]
    exact h2 _ _
def ZdR : Spec := fun ds Q => match ds with
  | [.c (.s 1 3 R sp)] => cond (okZ 3 (R ++ sp)) (Q (.tup [])) False
  | [.c (.v (.slice none 0 0))] => Q (.tup [])
  | _ => False
theorem ZjV : Zad Tryz.prog 127 ZdR := o_of Tryz.func127 (by kernel_rfl) rfl fun ds Q h => by
  unfold ZdR at h; split at h
  · rename_i R sp
    obtain ⟨h1, h2⟩ := Zag h
    obtain ⟨e1, w1, n1⟩ := Zah h1
    refine ⟨_, ZaC (l := []) (m := [(1, ZcJ R.length (R.length + sp.length) (R ++ sp))]) .nil mixed (Za7 rfl (by kernel_rfl) (by rw [e1]; exact Zhj w1 (by rw [Zal]; simp) (by rw [Zal]; exact n1))) Tryz.func127 rfl rfl (by simp [DV.fit32, DV.width]) ?_, rfl, rfl, h2⟩
    rw [ZjA]
    exact ⟨rfl, fun _ _ => rfl⟩
  · refine ⟨_, Zak .nil mixed Tryz.func127 rfl rfl rfl ?_, rfl, rfl, h⟩
    rw [ZiC]
  · exact h.elim
theorem ZjH (R sp : List (List D)) (K : DV → Prop) : (ask Tryz.prog [] Tryz.f137 [dS 3 R sp] K) = ((bif Nat.beq (List.length R) (OfNat.ofNat (0)) then K (DV.c (D.s (1) (3) [] [])) else True) ∧ bif allV R then bif true && (decide ((0 + List.length R) * 24 ≤ 140737488355328) && decide (0 + List.length R ≤ 9223372036854775807)) then bif decide (0 + List.length R ≤ List.length ([] ++ R)) && List.all ([] ++ R) fun r => List.all r D.keeps then K (DV.c (D.s (1) (3) (List.take (0 + List.length R) ([] ++ R)) (List.take (0 + List.length R - (0 + List.length R)) (List.drop (0 + List.length R) ([] ++ R))))) else False else False else False) := by kernel_rfl
def Zb6 : Spec := fun ds Q => match ds with | [.c (.s 0 3 R sp)] => cond (allV R && decide (R.length ≤ 5864062014635)) (Q (.c (.s 1 3 R []))) False | _ => False
theorem Zfy : Zad Tryz.prog 137 Zb6 := o_of Tryz.func137 (by kernel_rfl) rfl fun ds Q h => by
  unfold Zb6 at h; split at h
  · rename_i R sp
    obtain ⟨h1, h2⟩ := Zag h
    simp only [Bool.and_eq_true, decide_eq_true_eq] at h1
    refine ⟨_, Zak .nil mixed Tryz.func137 rfl rfl rfl ?_, by simp [DV.pureOwn, DV.pure1, D.pureOwn, ZaQ h1.1]; rfl, rfl, h2⟩
    rw [ZjH]
    have g1 : (0 + R.length) * 24 ≤ 140737488355328 := by omega
    have g2 : 0 + R.length ≤ 9223372036854775807 := by omega
    refine ⟨?_, ?_⟩
    · cases R with
      | nil => exact (rfl : DV.c (D.s 1 3 [] []) = DV.c (D.s 1 3 [] []))
      | cons r R => exact trivial
    · simp [h1.1, Zaq h1.1]
      exact ⟨by omega, by omega⟩
  · exact h.elim
def ZaG (R sp R' sp' : List (List D)) (i : Int) (p : Bool) : X := ⟨mkT 26 [(0, aS 3 R sp), (1, aS 3 R' sp'), (4, ab p), (5, ai i)], [], [], []⟩
def ZdU (R sp R' sp' : List (List D)) (y : X) : X := ZaG R sp R' sp' (Zcn y 5) (ZjQ y 4)
theorem ZlB (R sp R' sp' : List (List D)) (i : Int) (p : Bool) (N : X → Prop) (E : Exit → X → Prop) : (ZaR band bor Tryz.prog [] [] Tryz.f88 0 [0, 1, 4, 5] [] (ZdU R sp R' sp') (ZdU R sp R' sp') N E (ZaG R sp R' sp' i p)) = (bif decide (i < @Nat.cast Int _ (List.length R)) then bif decide (0 ≤ i) && decide (i < @Nat.cast Int _ (List.length R)) then bif isJ [IntKind.i64, IntKind.i64, IntKind.i64] (List.drop (0) (List.getD R (Int.toNat i) [])) then bif decide (0 ≤ i) && decide (i < @Nat.cast Int _ (List.length R')) then bif isJ [IntKind.i64, IntKind.i64, IntKind.i64] (List.drop (0) (List.getD R' (Int.toNat i) [])) then bif !eqI [hdJ (List.drop (0) (List.getD R (Int.toNat i) [])), hdJ (List.tail (List.drop (0) (List.getD R (Int.toNat i) []))), hdJ (List.tail (List.tail (List.drop (0) (List.getD R (Int.toNat i) []))))] [hdJ (List.drop (0) (List.getD R' (Int.toNat i) [])), hdJ (List.tail (List.drop (0) (List.getD R' (Int.toNat i) []))), hdJ (List.tail (List.tail (List.drop (0) (List.getD R' (Int.toNat i) []))))] then ZaG R sp R' sp' i false = ZaG R sp R' sp' i false ∧ E Exit.ret (ZaG R sp R' sp' i false) else ZaG R sp R' sp' (IntKind.wrap IntKind.i64 (i + 1)) p = ZaG R sp R' sp' (IntKind.wrap IntKind.i64 (i + 1)) p ∧ N (ZaG R sp R' sp' (IntKind.wrap IntKind.i64 (i + 1)) p) else False else False else False else False else ZaG R sp R' sp' i p = ZaG R sp R' sp' i p ∧ E (Exit.exit (0)) (ZaG R sp R' sp' i p)) := by kernel_rfl
def ZdQ (l l' : List (List Int)) (sp sp' : List (List D)) : LSum := fun Q x => x.only [0, 1, 4, 5] [] = ZaG (mZ l) sp (mZ l') sp' 0 false ∧ (l = l' → Q (.exit 0) (ZaG (mZ l) sp (mZ l') sp' l.length false)) ∧ (l ≠ l' → ∀ i : Int, Q .ret (ZaG (mZ l) sp (mZ l') sp' i false))
theorem ZnV (l l' : List (List Int)) (sp sp' : List (List D)) (K : DV → Prop) : (askL Tryz.prog [] [(4, ZdQ l l' sp sp')] Tryz.f88 [dS 3 (mZ l) sp, dS 3 (mZ l') sp'] K) = (bif @Nat.cast Int _ (List.length (mZ l)) != @Nat.cast Int _ (List.length (mZ l')) then K (DV.c (D.v (Value.bool false))) else ZaG (mZ l) sp (mZ l') sp' (0) false = ZaG (mZ l) sp (mZ l') sp' (0) false ∧ (l = l' → K (DV.c (D.v (Value.bool true)))) ∧ (l ≠ l' → ∀ (i : Int), K (DV.c (D.v (Value.bool false))))) := by kernel_rfl
theorem ZlP (l l' : List (List Int)) (sp sp' : List (List D)) (K : DV → Prop) : (askL Tryz.prog [] [(4, fun _ _ => False)] Tryz.f88 [dS 3 (mZ l) sp, dS 3 (mZ l') sp'] K) = (bif @Nat.cast Int _ (List.length (mZ l)) != @Nat.cast Int _ (List.length (mZ l')) then K (DV.c (D.v (Value.bool false))) else False) := by kernel_rfl
theorem Zj3 {l l' : List (List Int)} {sp sp' : List (List D)} (hw : wid 3 l) (hw' : wid 3 l') (hlen : l.length = l'.length) (hn : l.length ≤ 9223372036854775807) (Q : Exit → X → Prop) (x : X) (h : ZdQ l l' sp sp' Q x) : XWP Tryz.prog (.loop (Zar Tryz.f88 0)) Q x := by
  obtain ⟨h1, h2, h3⟩ := h
  refine ZaB (ι := Nat) (H := hkA band bor [] []) (fn := Tryz.f88) (i := 0) (ts := [0, 1, 4, 5]) (ks := []) (ZaL .nil) mixed (Zai rfl)
    (fun i => ZaG (mZ l) sp (mZ l') sp' i false) (fun i => i ≤ l.length ∧ ∀ j, j < i → l.getD j [] = l'.getD j []) (fun i => l.length - i) 0 (ZdU (mZ l) sp (mZ l') sp') (ZdU (mZ l) sp (mZ l') sp') (fun i hp => ?_) ⟨Nat.zero_le _, fun j hj => by omega⟩ h1
  obtain ⟨hi, hj⟩ := hp
  show ZaR band bor Tryz.prog _ _ Tryz.f88 0 _ _ _ _ _ _ _
  rw [ZlB]
  by_cases hl : i < l.length
  · have wi : IntKind.wrap .i64 ((i : Int) + 1) = ((i + 1 : Nat) : Int) := Zan (n := 1) (by omega)
    have hl' : i < l'.length := by omega
    have hj1 : isJ [IntKind.i64, IntKind.i64, IntKind.i64] ((mZ l).getD i []) = true := Zav (j := 0) (n := 3) hw hl (by omega)
    have hj2 : isJ [IntKind.i64, IntKind.i64, IntKind.i64] ((mZ l').getD i []) = true := Zav (j := 0) (n := 3) hw' hl' (by omega)
    have he := ZeZ (l.getD i []) (l'.getD i []) (by rw [ZaA hw hl, ZaA hw' hl'])
    rw [← row3 (ZaA hw hl), ← row3 (ZaA hw' hl')] at he
    simp only [Zaf, Int.ofNat_lt, hl, hl', decide_true, cond_true, Int.natCast_nonneg, Bool.and_self, Int.toNat_natCast, ZaM, ZaO, Zbo, hj1, hj2, List.drop_zero, ZaJ, true_and, wi, he]
    rw [row3 (ZaA hw hl), row3 (ZaA hw' hl')]
    by_cases hee : l.getD i [] = l'.getD i []
    · rw [decide_eq_true hee]
      refine ⟨i + 1, by omega, ⟨hl, fun j hji => ?_⟩, rfl⟩
      rcases Nat.lt_succ_iff_lt_or_eq.1 hji with hji | rfl
      · exact hj j hji
      · exact hee
    · rw [decide_eq_false hee]
      exact h3 (fun e => hee (by rw [e])) _
  · have e : i = l.length := by omega
    subst e
    simp only [Zaf, Int.ofNat_lt, Nat.lt_irrefl, decide_false, cond_false, true_and]
    exact h2 (Zez hlen fun j h => hj j h)
theorem Zn0 {l l' : List (List Int)} {sp sp' : List (List D)} (hw : wid 3 l) (hw' : wid 3 l') (hn : l.length ≤ 9223372036854775807) : CT Tryz.prog 88 [dS 3 (mZ l) sp, dS 3 (mZ l') sp'] (B (decide (l = l'))) := by
  by_cases hlen : l.length = l'.length
  · refine ZaC (l := []) (m := [(4, ZdQ l l' sp sp')]) .nil mixed (Za7 rfl (by kernel_rfl) (Zj3 hw hw' hlen hn)) Tryz.func88 rfl rfl rfl ?_
    rw [ZnV]
    have : (((mZ l).length : Int) != ((mZ l').length : Int)) = false := by simp [Zaf, hlen]
    rw [this]
    by_cases he : l = l'
    · simp [he]
    · simp [he]
  · refine ZaC (l := []) (m := [(4, fun _ _ => False)]) .nil mixed (Za7 rfl (by kernel_rfl) (fun _ _ h => h.elim)) Tryz.func88 rfl rfl rfl ?_
    rw [ZlP]
    have : (((mZ l).length : Int) != ((mZ l').length : Int)) = true := by simp [Zaf]; omega
    rw [this]
    have : l ≠ l' := fun e => hlen (by rw [e])
    simp [this]
def Zfe : Spec := fun ds Q => match ds with | [.c (.s 0 3 R sp), .c (.s 0 3 R' sp')] => cond (okZ 3 R && okZ 3 R') (Q (B (decide (toZ R = toZ R')))) False | _ => False
theorem ZnG : Zad Tryz.prog 88 Zfe := o_of Tryz.func88 (by kernel_rfl) rfl fun ds Q h => by
  unfold Zfe at h; split at h
  · rename_i R sp R' sp'
    obtain ⟨h1, h2⟩ := Zag h
    simp only [Bool.and_eq_true] at h1
    obtain ⟨e1, w1, n1⟩ := Zah h1.1
    obtain ⟨e2, w2, n2⟩ := Zah h1.2
    rw [e1, e2]
    rw [Zal R |>.symm] at n1
    generalize toZ R = l at *
    generalize toZ R' = l' at *
    exact ⟨_, Zn0 w1 w2 n1, rfl, rfl, h2⟩
  · exact h.elim
def ZaU (n kn : Nat) (i : Int) (W : List (List D)) : X := ⟨mkT 19 [(0, .c (.rs 1000000 0 3 0 n kn)), (2, ai i)], [(1000000, .sl 0 3 W)], [], []⟩
def Zc7 (n kn : Nat) (y : X) : X := ZaU n kn (Zcn y 2) (Zih y 1000000)
theorem Zjz (n kn : Nat) (i : Int) (W : List (List D)) (N : X → Prop) (E : Exit → X → Prop) : (ZaR band bor Tryz.prog [] [] Tryz.f124 0 [0, 2] [1000000] (Zc7 n kn) (Zc7 n kn) N E (ZaU n kn i W)) = (bif decide (i < @Nat.cast Int _ n) then bif decide (0 ≤ i) && decide (i < @Nat.cast Int _ n) then bif decide (addN (0) (Int.toNat i) < List.length W) then bif isJ [IntKind.i64] (List.drop (0) (List.getD W (addN (0) (Int.toNat i)) [])) then bif decide (0 ≤ i) && decide (i < @Nat.cast Int _ n) then bif decide (addN (0) (Int.toNat i) < List.length W) && decide (0 + 1 ≤ 3) then ZaU n kn (IntKind.wrap IntKind.i64 (i + 1)) (List.set W (addN (0) (Int.toNat i)) (D.v (Value.int IntKind.i64 (bxor (hdJ (List.drop (0) (List.getD W (addN (0) (Int.toNat i)) []))) (90))) :: List.drop (0 + 1) (List.getD W (addN (0) (Int.toNat i)) []))) = ZaU n kn (IntKind.wrap IntKind.i64 (i + 1)) (List.set W (addN (0) (Int.toNat i)) (D.v (Value.int IntKind.i64 (bxor (hdJ (List.drop (0) (List.getD W (addN (0) (Int.toNat i)) []))) (90))) :: List.drop (0 + 1) (List.getD W (addN (0) (Int.toNat i)) []))) ∧ N (ZaU n kn (IntKind.wrap IntKind.i64 (i + 1)) (List.set W (addN (0) (Int.toNat i)) (D.v (Value.int IntKind.i64 (bxor (hdJ (List.drop (0) (List.getD W (addN (0) (Int.toNat i)) []))) (90))) :: List.drop (0 + 1) (List.getD W (addN (0) (Int.toNat i)) [])))) else False else False else False else False else False else ZaU n kn i W = ZaU n kn i W ∧ E (Exit.exit (0)) (ZaU n kn i W)) := by kernel_rfl
theorem ZgY (v : Int) (r : List Int) (h : 0 < r.length) : D.v (Value.int IntKind.i64 v) :: List.drop (0 + 1) (r.map vI) = (r.set 0 v).map vI := by
  cases r with
  | nil => simp at h
  | cons a r => simp [vI, vi]
def Zdg (n kn : Nat) (W0 : List (List D)) : LSum := fun Q y => y.only [0, 2] [1000000] = ZaU n kn 0 W0 ∧ ∀ i W, Q (.exit 0) (ZaU n kn i W)
theorem Zl1 (R sp : List (List D)) (K : DV → Prop) : (askL Tryz.prog [] [(1, Zdg R.length (R.length + sp.length) (R ++ sp))] Tryz.f124 [oS 3 R sp] K) = (ZaU (List.length R) (List.length R + List.length sp) (0) (R ++ sp) = ZaU (List.length R) (List.length R + List.length sp) (0) (R ++ sp) ∧ ∀ (i : Int) (W : List (List D)), K (DV.tup [])) := by kernel_rfl
theorem ZkF (K : DV → Prop) : (ask Tryz.prog [] Tryz.f124 [.c (.v (.slice none 0 0))] K) = (K (DV.tup [])) := by kernel_rfl
theorem ZiB {n kn : Nat} {l : List (List Int)} (hw : wid 3 l) (hnl : n ≤ l.length) (hn : l.length ≤ 9223372036854775807) (Q : Exit → X → Prop) (x : X) (h : Zdg n kn (mZ l) Q x) : XWP Tryz.prog (.loop (Zar Tryz.f124 0)) Q x := by
  obtain ⟨h1, h2⟩ := h
  refine ZaB (ι := Nat × List (List Int)) (H := hkA band bor [] []) (fn := Tryz.f124) (i := 0) (ts := [0, 2]) (ks := [1000000]) (ZaL .nil) mixed (Zai rfl)
    (fun p => ZaU n kn p.1 (mZ p.2)) (fun p => p.1 ≤ n ∧ wid 3 p.2 ∧ p.2.length = l.length) (fun p => n - p.1) (0, l) (Zc7 n kn) (Zc7 n kn) (fun p hp => ?_) ⟨Nat.zero_le _, hw, rfl⟩ h1
  obtain ⟨i, m⟩ := p
  obtain ⟨hi, hm, hml⟩ := hp
  simp only at hi hm hml ⊢
  show ZaR band bor Tryz.prog _ _ Tryz.f124 0 _ _ _ _ _ _ _
  rw [Zjz]
  by_cases hl : i < n
  · have wi : IntKind.wrap .i64 ((i : Int) + 1) = ((i + 1 : Nat) : Int) := Zan (n := 1) (by omega)
    have hlm : i < m.length := by omega
    have hj := ZbR (j := 0) hm hlm (by omega)
    have hrow := ZaA hm hlm
    have hd1 : (0 + 1 ≤ 3) = True := by simp
    simp only [Int.ofNat_lt, hl, decide_true, cond_true, Int.natCast_nonneg, Bool.and_self, Int.toNat_natCast, addN, Zaf, hlm, hj, ZbL, wi, hd1, true_and]
    rw [ZdC, ZgY _ _ (by rw [hrow]; omega), ZhB]
    exact ⟨(i + 1, _), by simp; omega, ⟨hl, ZgX hm (by rw [List.length_set, hrow]), by rw [List.length_set, hml]⟩, rfl⟩
  · have e : ¬ ((i : Int) < (n : Int)) := by omega
    simp only [e, decide_false, cond_false, true_and]
    exact h2 _ _
def Zeo : Spec := fun ds Q => match ds with
  | [.c (.s 1 3 R sp)] => cond (okZ 3 (R ++ sp)) (Q (.tup [])) False
  | [.c (.v (.slice none 0 0))] => Q (.tup [])
  | _ => False
theorem Zl2 : Zad Tryz.prog 124 Zeo := o_of Tryz.func124 (by kernel_rfl) rfl fun ds Q h => by
  unfold Zeo at h; split at h
  · rename_i R sp
    obtain ⟨h1, h2⟩ := Zag h
    obtain ⟨e1, w1, n1⟩ := Zah h1
    refine ⟨_, ZaC (l := []) (m := [(1, Zdg R.length (R.length + sp.length) (R ++ sp))]) .nil mixed (Za7 rfl (by kernel_rfl) (by rw [e1]; exact ZiB w1 (by rw [Zal]; simp) (by rw [Zal]; exact n1))) Tryz.func124 rfl rfl (by simp [DV.fit32, DV.width]) ?_, rfl, rfl, h2⟩
    rw [Zl1]
    exact ⟨rfl, fun _ _ => rfl⟩
  · refine ⟨_, Zak .nil mixed Tryz.func124 rfl rfl rfl ?_, rfl, rfl, h⟩
    rw [ZkF]
  · exact h.elim
theorem ZlF (R sp : List (List D)) (K : DV → Prop) : (ask Tryz.prog [] Tryz.f148 [dS 3 R sp] K) = ((bif Nat.beq (List.length R) (OfNat.ofNat (0)) then K (DV.c (D.s (1) (3) [] [])) else True) ∧ bif allV R then bif true && (decide ((0 + List.length R) * 24 ≤ 140737488355328) && decide (0 + List.length R ≤ 9223372036854775807)) then bif decide (0 + List.length R ≤ List.length ([] ++ R)) && List.all ([] ++ R) fun r => List.all r D.keeps then K (DV.c (D.s (1) (3) (List.take (0 + List.length R) ([] ++ R)) (List.take (0 + List.length R - (0 + List.length R)) (List.drop (0 + List.length R) ([] ++ R))))) else False else False else False) := by kernel_rfl
def Zem : Spec := fun ds Q => match ds with | [.c (.s 0 3 R sp)] => cond (allV R && decide (R.length ≤ 5864062014635)) (Q (.c (.s 1 3 R []))) False | _ => False
theorem ZkU : Zad Tryz.prog 148 Zem := o_of Tryz.func148 (by kernel_rfl) rfl fun ds Q h => by
  unfold Zem at h; split at h
  · rename_i R sp
    obtain ⟨h1, h2⟩ := Zag h
    simp only [Bool.and_eq_true, decide_eq_true_eq] at h1
    refine ⟨_, Zak .nil mixed Tryz.func148 rfl rfl rfl ?_, by simp [DV.pureOwn, DV.pure1, D.pureOwn, ZaQ h1.1]; rfl, rfl, h2⟩
    rw [ZlF]
    have g1 : (0 + R.length) * 24 ≤ 140737488355328 := by omega
    have g2 : 0 + R.length ≤ 9223372036854775807 := by omega
    refine ⟨?_, ?_⟩
    · cases R with
      | nil => exact (rfl : DV.c (D.s 1 3 [] []) = DV.c (D.s 1 3 [] []))
      | cons r R => exact trivial
    · simp [h1.1, Zaq h1.1]
      exact ⟨by omega, by omega⟩
  · exact h.elim
def Zaw (R sp R' sp' : List (List D)) (i : Int) (p : Bool) : X := ⟨mkT 26 [(0, aS 4 R sp), (1, aS 4 R' sp'), (4, ab p), (5, ai i)], [], [], []⟩
def Zdo (R sp R' sp' : List (List D)) (y : X) : X := Zaw R sp R' sp' (Zcn y 5) (ZjQ y 4)
theorem Zjp (R sp R' sp' : List (List D)) (i : Int) (p : Bool) (N : X → Prop) (E : Exit → X → Prop) : (ZaR band bor Tryz.prog [] [] Tryz.f59 0 [0, 1, 4, 5] [] (Zdo R sp R' sp') (Zdo R sp R' sp') N E (Zaw R sp R' sp' i p)) = (bif decide (i < @Nat.cast Int _ (List.length R)) then bif decide (0 ≤ i) && decide (i < @Nat.cast Int _ (List.length R)) then bif isJ [IntKind.i64, IntKind.i64, IntKind.i64, IntKind.i64] (List.drop (0) (List.getD R (Int.toNat i) [])) then bif decide (0 ≤ i) && decide (i < @Nat.cast Int _ (List.length R')) then bif isJ [IntKind.i64, IntKind.i64, IntKind.i64, IntKind.i64] (List.drop (0) (List.getD R' (Int.toNat i) [])) then bif !eqI [hdJ (List.drop (0) (List.getD R (Int.toNat i) [])), hdJ (List.tail (List.drop (0) (List.getD R (Int.toNat i) []))), hdJ (List.tail (List.tail (List.drop (0) (List.getD R (Int.toNat i) [])))), hdJ (List.tail (List.tail (List.tail (List.drop (0) (List.getD R (Int.toNat i) [])))))] [hdJ (List.drop (0) (List.getD R' (Int.toNat i) [])), hdJ (List.tail (List.drop (0) (List.getD R' (Int.toNat i) []))), hdJ (List.tail (List.tail (List.drop (0) (List.getD R' (Int.toNat i) [])))), hdJ (List.tail (List.tail (List.tail (List.drop (0) (List.getD R' (Int.toNat i) [])))))] then Zaw R sp R' sp' i false = Zaw R sp R' sp' i false ∧ E Exit.ret (Zaw R sp R' sp' i false) else Zaw R sp R' sp' (IntKind.wrap IntKind.i64 (i + 1)) p = Zaw R sp R' sp' (IntKind.wrap IntKind.i64 (i + 1)) p ∧ N (Zaw R sp R' sp' (IntKind.wrap IntKind.i64 (i + 1)) p) else False else False else False else False else Zaw R sp R' sp' i p = Zaw R sp R' sp' i p ∧ E (Exit.exit (0)) (Zaw R sp R' sp' i p)) := by kernel_rfl
def Zc4 (l l' : List (List Int)) (sp sp' : List (List D)) : LSum := fun Q x => x.only [0, 1, 4, 5] [] = Zaw (mZ l) sp (mZ l') sp' 0 false ∧ (l = l' → Q (.exit 0) (Zaw (mZ l) sp (mZ l') sp' l.length false)) ∧ (l ≠ l' → ∀ i : Int, Q .ret (Zaw (mZ l) sp (mZ l') sp' i false))
theorem ZlI (l l' : List (List Int)) (sp sp' : List (List D)) (K : DV → Prop) : (askL Tryz.prog [] [(4, Zc4 l l' sp sp')] Tryz.f59 [dS 4 (mZ l) sp, dS 4 (mZ l') sp'] K) = (bif @Nat.cast Int _ (List.length (mZ l)) != @Nat.cast Int _ (List.length (mZ l')) then K (DV.c (D.v (Value.bool false))) else Zaw (mZ l) sp (mZ l') sp' (0) false = Zaw (mZ l) sp (mZ l') sp' (0) false ∧ (l = l' → K (DV.c (D.v (Value.bool true)))) ∧ (l ≠ l' → ∀ (i : Int), K (DV.c (D.v (Value.bool false))))) := by kernel_rfl
theorem Zkl (l l' : List (List Int)) (sp sp' : List (List D)) (K : DV → Prop) : (askL Tryz.prog [] [(4, fun _ _ => False)] Tryz.f59 [dS 4 (mZ l) sp, dS 4 (mZ l') sp'] K) = (bif @Nat.cast Int _ (List.length (mZ l)) != @Nat.cast Int _ (List.length (mZ l')) then K (DV.c (D.v (Value.bool false))) else False) := by kernel_rfl
theorem ZiJ {l l' : List (List Int)} {sp sp' : List (List D)} (hw : wid 4 l) (hw' : wid 4 l') (hlen : l.length = l'.length) (hn : l.length ≤ 9223372036854775807) (Q : Exit → X → Prop) (x : X) (h : Zc4 l l' sp sp' Q x) : XWP Tryz.prog (.loop (Zar Tryz.f59 0)) Q x := by
  obtain ⟨h1, h2, h3⟩ := h
  refine ZaB (ι := Nat) (H := hkA band bor [] []) (fn := Tryz.f59) (i := 0) (ts := [0, 1, 4, 5]) (ks := []) (ZaL .nil) mixed (Zai rfl)
    (fun i => Zaw (mZ l) sp (mZ l') sp' i false) (fun i => i ≤ l.length ∧ ∀ j, j < i → l.getD j [] = l'.getD j []) (fun i => l.length - i) 0 (Zdo (mZ l) sp (mZ l') sp') (Zdo (mZ l) sp (mZ l') sp') (fun i hp => ?_) ⟨Nat.zero_le _, fun j hj => by omega⟩ h1
  obtain ⟨hi, hj⟩ := hp
  show ZaR band bor Tryz.prog _ _ Tryz.f59 0 _ _ _ _ _ _ _
  rw [Zjp]
  by_cases hl : i < l.length
  · have wi : IntKind.wrap .i64 ((i : Int) + 1) = ((i + 1 : Nat) : Int) := Zan (n := 1) (by omega)
    have hl' : i < l'.length := by omega
    have hj1 : isJ [IntKind.i64, IntKind.i64, IntKind.i64, IntKind.i64] ((mZ l).getD i []) = true := Zav (j := 0) (n := 4) hw hl (by omega)
    have hj2 : isJ [IntKind.i64, IntKind.i64, IntKind.i64, IntKind.i64] ((mZ l').getD i []) = true := Zav (j := 0) (n := 4) hw' hl' (by omega)
    have he := ZeZ (l.getD i []) (l'.getD i []) (by rw [ZaA hw hl, ZaA hw' hl'])
    rw [← row4 (ZaA hw hl), ← row4 (ZaA hw' hl')] at he
    simp only [Zaf, Int.ofNat_lt, hl, hl', decide_true, cond_true, Int.natCast_nonneg, Bool.and_self, Int.toNat_natCast, ZaM, ZaO, Zbo, hj1, hj2, List.drop_zero, ZaJ, true_and, wi, he]
    rw [row4 (ZaA hw hl), row4 (ZaA hw' hl')]
    by_cases hee : l.getD i [] = l'.getD i []
    · rw [decide_eq_true hee]
      refine ⟨i + 1, by omega, ⟨hl, fun j hji => ?_⟩, rfl⟩
      rcases Nat.lt_succ_iff_lt_or_eq.1 hji with hji | rfl
      · exact hj j hji
      · exact hee
    · rw [decide_eq_false hee]
      exact h3 (fun e => hee (by rw [e])) _
  · have e : i = l.length := by omega
    subst e
    simp only [Zaf, Int.ofNat_lt, Nat.lt_irrefl, decide_false, cond_false, true_and]
    exact h2 (Zez hlen fun j h => hj j h)
theorem Zla {l l' : List (List Int)} {sp sp' : List (List D)} (hw : wid 4 l) (hw' : wid 4 l') (hn : l.length ≤ 9223372036854775807) : CT Tryz.prog 59 [dS 4 (mZ l) sp, dS 4 (mZ l') sp'] (B (decide (l = l'))) := by
  by_cases hlen : l.length = l'.length
  · refine ZaC (l := []) (m := [(4, Zc4 l l' sp sp')]) .nil mixed (Za7 rfl (by kernel_rfl) (ZiJ hw hw' hlen hn)) Tryz.func59 rfl rfl rfl ?_
    rw [ZlI]
    have : (((mZ l).length : Int) != ((mZ l').length : Int)) = false := by simp [Zaf, hlen]
    rw [this]
    by_cases he : l = l'
    · simp [he]
    · simp [he]
  · refine ZaC (l := []) (m := [(4, fun _ _ => False)]) .nil mixed (Za7 rfl (by kernel_rfl) (fun _ _ h => h.elim)) Tryz.func59 rfl rfl rfl ?_
    rw [Zkl]
    have : (((mZ l).length : Int) != ((mZ l').length : Int)) = true := by simp [Zaf]; omega
    rw [this]
    have : l ≠ l' := fun e => hlen (by rw [e])
    simp [this]
def Zel : Spec := fun ds Q => match ds with | [.c (.s 0 4 R sp), .c (.s 0 4 R' sp')] => cond (okZ 4 R && okZ 4 R') (Q (B (decide (toZ R = toZ R')))) False | _ => False
theorem ZkQ : Zad Tryz.prog 59 Zel := o_of Tryz.func59 (by kernel_rfl) rfl fun ds Q h => by
  unfold Zel at h; split at h
  · rename_i R sp R' sp'
    obtain ⟨h1, h2⟩ := Zag h
    simp only [Bool.and_eq_true] at h1
    obtain ⟨e1, w1, n1⟩ := Zah h1.1
    obtain ⟨e2, w2, n2⟩ := Zah h1.2
    rw [e1, e2]
    rw [Zal R |>.symm] at n1
    generalize toZ R = l at *
    generalize toZ R' = l' at *
    exact ⟨_, Zla w1 w2 n1, rfl, rfl, h2⟩
  · exact h.elim
def ZaH (n kn : Nat) (i : Int) (W : List (List D)) : X := ⟨mkT 19 [(0, .c (.rs 1000000 0 4 0 n kn)), (2, ai i)], [(1000000, .sl 0 4 W)], [], []⟩
def ZcB (n kn : Nat) (y : X) : X := ZaH n kn (Zcn y 2) (Zih y 1000000)
theorem ZiI (n kn : Nat) (i : Int) (W : List (List D)) (N : X → Prop) (E : Exit → X → Prop) : (ZaR band bor Tryz.prog [] [] Tryz.f74 0 [0, 2] [1000000] (ZcB n kn) (ZcB n kn) N E (ZaH n kn i W)) = (bif decide (i < @Nat.cast Int _ n) then bif decide (0 ≤ i) && decide (i < @Nat.cast Int _ n) then bif decide (addN (0) (Int.toNat i) < List.length W) then bif isJ [IntKind.i64] (List.drop (0) (List.getD W (addN (0) (Int.toNat i)) [])) then bif decide (0 ≤ i) && decide (i < @Nat.cast Int _ n) then bif decide (addN (0) (Int.toNat i) < List.length W) && decide (0 + 1 ≤ 4) then ZaH n kn (IntKind.wrap IntKind.i64 (i + 1)) (List.set W (addN (0) (Int.toNat i)) (D.v (Value.int IntKind.i64 (bxor (hdJ (List.drop (0) (List.getD W (addN (0) (Int.toNat i)) []))) (90))) :: List.drop (0 + 1) (List.getD W (addN (0) (Int.toNat i)) []))) = ZaH n kn (IntKind.wrap IntKind.i64 (i + 1)) (List.set W (addN (0) (Int.toNat i)) (D.v (Value.int IntKind.i64 (bxor (hdJ (List.drop (0) (List.getD W (addN (0) (Int.toNat i)) []))) (90))) :: List.drop (0 + 1) (List.getD W (addN (0) (Int.toNat i)) []))) ∧ N (ZaH n kn (IntKind.wrap IntKind.i64 (i + 1)) (List.set W (addN (0) (Int.toNat i)) (D.v (Value.int IntKind.i64 (bxor (hdJ (List.drop (0) (List.getD W (addN (0) (Int.toNat i)) []))) (90))) :: List.drop (0 + 1) (List.getD W (addN (0) (Int.toNat i)) [])))) else False else False else False else False else False else ZaH n kn i W = ZaH n kn i W ∧ E (Exit.exit (0)) (ZaH n kn i W)) := by kernel_rfl
theorem ZfK (v : Int) (r : List Int) (h : 0 < r.length) : D.v (Value.int IntKind.i64 v) :: List.drop (0 + 1) (r.map vI) = (r.set 0 v).map vI := by
  cases r with
  | nil => simp at h
  | cons a r => simp [vI, vi]
def ZcG (n kn : Nat) (W0 : List (List D)) : LSum := fun Q y => y.only [0, 2] [1000000] = ZaH n kn 0 W0 ∧ ∀ i W, Q (.exit 0) (ZaH n kn i W)
theorem Zjy (R sp : List (List D)) (K : DV → Prop) : (askL Tryz.prog [] [(1, ZcG R.length (R.length + sp.length) (R ++ sp))] Tryz.f74 [oS 4 R sp] K) = (ZaH (List.length R) (List.length R + List.length sp) (0) (R ++ sp) = ZaH (List.length R) (List.length R + List.length sp) (0) (R ++ sp) ∧ ∀ (i : Int) (W : List (List D)), K (DV.tup [])) := by kernel_rfl
theorem Zis (K : DV → Prop) : (ask Tryz.prog [] Tryz.f74 [.c (.v (.slice none 0 0))] K) = (K (DV.tup [])) := by kernel_rfl
theorem Zhk {n kn : Nat} {l : List (List Int)} (hw : wid 4 l) (hnl : n ≤ l.length) (hn : l.length ≤ 9223372036854775807) (Q : Exit → X → Prop) (x : X) (h : ZcG n kn (mZ l) Q x) : XWP Tryz.prog (.loop (Zar Tryz.f74 0)) Q x := by
  obtain ⟨h1, h2⟩ := h
  refine ZaB (ι := Nat × List (List Int)) (H := hkA band bor [] []) (fn := Tryz.f74) (i := 0) (ts := [0, 2]) (ks := [1000000]) (ZaL .nil) mixed (Zai rfl)
    (fun p => ZaH n kn p.1 (mZ p.2)) (fun p => p.1 ≤ n ∧ wid 4 p.2 ∧ p.2.length = l.length) (fun p => n - p.1) (0, l) (ZcB n kn) (ZcB n kn) (fun p hp => ?_) ⟨Nat.zero_le _, hw, rfl⟩ h1
  obtain ⟨i, m⟩ := p
  obtain ⟨hi, hm, hml⟩ := hp
  simp only at hi hm hml ⊢
  show ZaR band bor Tryz.prog _ _ Tryz.f74 0 _ _ _ _ _ _ _
  rw [ZiI]
  by_cases hl : i < n
  · have wi : IntKind.wrap .i64 ((i : Int) + 1) = ((i + 1 : Nat) : Int) := Zan (n := 1) (by omega)
    have hlm : i < m.length := by omega
    have hj := ZbR (j := 0) hm hlm (by omega)
    have hrow := ZaA hm hlm
    have hd1 : (0 + 1 ≤ 4) = True := by simp
    simp only [Int.ofNat_lt, hl, decide_true, cond_true, Int.natCast_nonneg, Bool.and_self, Int.toNat_natCast, addN, Zaf, hlm, hj, ZbL, wi, hd1, true_and]
    rw [ZdC, ZfK _ _ (by rw [hrow]; omega), ZhB]
    exact ⟨(i + 1, _), by simp; omega, ⟨hl, ZgX hm (by rw [List.length_set, hrow]), by rw [List.length_set, hml]⟩, rfl⟩
  · have e : ¬ ((i : Int) < (n : Int)) := by omega
    simp only [e, decide_false, cond_false, true_and]
    exact h2 _ _
def Zbq : Spec := fun ds Q => match ds with
  | [.c (.s 1 4 R sp)] => cond (okZ 4 (R ++ sp)) (Q (.tup [])) False
  | [.c (.v (.slice none 0 0))] => Q (.tup [])
  | _ => False
theorem Zjn : Zad Tryz.prog 74 Zbq := o_of Tryz.func74 (by kernel_rfl) rfl fun ds Q h => by
  unfold Zbq at h; split at h
  · rename_i R sp
    obtain ⟨h1, h2⟩ := Zag h
    obtain ⟨e1, w1, n1⟩ := Zah h1
    refine ⟨_, ZaC (l := []) (m := [(1, ZcG R.length (R.length + sp.length) (R ++ sp))]) .nil mixed (Za7 rfl (by kernel_rfl) (by rw [e1]; exact Zhk w1 (by rw [Zal]; simp) (by rw [Zal]; exact n1))) Tryz.func74 rfl rfl (by simp [DV.fit32, DV.width]) ?_, rfl, rfl, h2⟩
    rw [Zjy]
    exact ⟨rfl, fun _ _ => rfl⟩
  · refine ⟨_, Zak .nil mixed Tryz.func74 rfl rfl rfl ?_, rfl, rfl, h⟩
    rw [Zis]
  · exact h.elim
theorem Zjc (R sp : List (List D)) (K : DV → Prop) : (ask Tryz.prog [] Tryz.f95 [dS 4 R sp] K) = ((bif Nat.beq (List.length R) (OfNat.ofNat (0)) then K (DV.c (D.s (1) (4) [] [])) else True) ∧ bif allV R then bif true && (decide ((0 + List.length R) * 32 ≤ 140737488355328) && decide (0 + List.length R ≤ 9223372036854775807)) then bif decide (0 + List.length R ≤ List.length ([] ++ R)) && List.all ([] ++ R) fun r => List.all r D.keeps then K (DV.c (D.s (1) (4) (List.take (0 + List.length R) ([] ++ R)) (List.take (0 + List.length R - (0 + List.length R)) (List.drop (0 + List.length R) ([] ++ R))))) else False else False else False) := by kernel_rfl
def Zbt : Spec := fun ds Q => match ds with | [.c (.s 0 4 R sp)] => cond (allV R && decide (R.length ≤ 4398046510977)) (Q (.c (.s 1 4 R []))) False | _ => False
theorem Zb8 : Zad Tryz.prog 95 Zbt := o_of Tryz.func95 (by kernel_rfl) rfl fun ds Q h => by
  unfold Zbt at h; split at h
  · rename_i R sp
    obtain ⟨h1, h2⟩ := Zag h
    simp only [Bool.and_eq_true, decide_eq_true_eq] at h1
    refine ⟨_, Zak .nil mixed Tryz.func95 rfl rfl rfl ?_, by simp [DV.pureOwn, DV.pure1, D.pureOwn, ZaQ h1.1]; rfl, rfl, h2⟩
    rw [Zjc]
    have g1 : (0 + R.length) * 32 ≤ 140737488355328 := by omega
    have g2 : 0 + R.length ≤ 9223372036854775807 := by omega
    refine ⟨?_, ?_⟩
    · cases R with
      | nil => exact (rfl : DV.c (D.s 1 4 [] []) = DV.c (D.s 1 4 [] []))
      | cons r R => exact trivial
    · simp [h1.1, Zaq h1.1]
      exact ⟨by omega, by omega⟩
  · exact h.elim
end

section
open Go Go.Proofs
theorem eReg (x : Int) (K : DV → Prop) : (ask Tryz.prog [] Tryz.f135 [I x] K) = (bif decide (x ≥ 0) then K (DV.c (D.v (Value.bool (decide (x < 4))))) else K (DV.c (D.v (Value.bool false)))) := by kernel_rfl
theorem oReg : Zad Tryz.prog 135 (sB lab) := oB Tryz.func135 (by kernel_rfl) rfl fun x => Zak .nil mixed Tryz.func135 rfl rfl rfl (by
  rw [eReg]; unfold lab upto; rw [lt4]; cases decide (x ≥ 0) <;> rfl)
theorem Zu3 : Zad Tryz.prog 136 (sB lab) := oB Tryz.func136 (by kernel_rfl) rfl fun x => Zak (.cons oUp .nil) mixed Tryz.func136 rfl rfl rfl (by
  have e : ask Tryz.prog [(119, sUp)] Tryz.f136 [I x] (fun r => r = B (lab x)) = (B (lab x) = B (lab x)) := by kernel_rfl
  rw [e])
def nA (c a : Int) : Int := if c = 0 ∨ c = 1 ∨ c = 2 ∨ c = 3 ∨ c = 4 ∨ c = 6 then a else 0
def nB (c b : Int) : Int := if c = 0 ∨ c = 1 ∨ c = 2 ∨ c = 3 ∨ c = 4 then b else 0
def nD (c d : Int) : Int := if c = 2 ∨ c = 3 then d else 0
def imay (c a b d : Int) : Bool := (c == 0 && (lab a && (val8 b && d == 0))) || ((c == 1 && (lab a && (lab b && d == 0))) || (((c == 2 || c == 3) && (lab a && (lab b && lab d))) || ((c == 4 && (lab a && (upto b 0 16 && d == 0))) || ((c == 5 && (a == 0 && (b == 0 && d == 0))) || (c == 6 && (val8 a && (b == 0 && d == 0)))))))
def Zn8 : Spec := fun ds Q => match ds with | [.agg [.v (.int .i64 c), .v (.int .i64 a), .v (.int .i64 b), .v (.int .i64 d)]] => Q (.agg [vi c, vi (nA c a), vi (nB c b), vi (nD c d)]) | _ => False
def ZjL : Spec := fun ds Q => match ds with | [.agg [.v (.int .i64 c), .v (.int .i64 a), .v (.int .i64 b), .v (.int .i64 d)]] => Q (B (imay c a b d)) | _ => False
theorem Zvc (c a b d : Int) (K : DV → Prop) : (ask Tryz.prog [] Tryz.f193 [.agg [vi c, vi a, vi b, vi d]] K) = (bif c == 0 then K (DV.agg [D.v (Value.int IntKind.i64 c), D.v (Value.int IntKind.i64 a), D.v (Value.int IntKind.i64 b), D.v (Value.int IntKind.i64 (0))]) else bif c == 1 then K (DV.agg [D.v (Value.int IntKind.i64 c), D.v (Value.int IntKind.i64 a), D.v (Value.int IntKind.i64 b), D.v (Value.int IntKind.i64 (0))]) else bif c == 4 then K (DV.agg [D.v (Value.int IntKind.i64 c), D.v (Value.int IntKind.i64 a), D.v (Value.int IntKind.i64 b), D.v (Value.int IntKind.i64 (0))]) else bif c == 2 then K (DV.agg [D.v (Value.int IntKind.i64 c), D.v (Value.int IntKind.i64 a), D.v (Value.int IntKind.i64 b), D.v (Value.int IntKind.i64 d)]) else bif c == 3 then K (DV.agg [D.v (Value.int IntKind.i64 c), D.v (Value.int IntKind.i64 a), D.v (Value.int IntKind.i64 b), D.v (Value.int IntKind.i64 d)]) else bif c == 6 then K (DV.agg [D.v (Value.int IntKind.i64 c), D.v (Value.int IntKind.i64 a), D.v (Value.int IntKind.i64 (0)), D.v (Value.int IntKind.i64 (0))]) else K (DV.agg [D.v (Value.int IntKind.i64 c), D.v (Value.int IntKind.i64 (0)), D.v (Value.int IntKind.i64 (0)), D.v (Value.int IntKind.i64 (0))])) := by kernel_rfl
theorem Zwi (c a b d : Int) (K : DV → Prop) : (ask Tryz.prog [(193, Zn8), (135, sB lab), (115, sB val8), (64, sB lab)] Tryz.f183 [.agg [vi c, vi a, vi b, vi d]] K) = (bif !eqI [c, nA c a, nB c b, nD c d] [c, a, b, d] then K (DV.c (D.v (Value.bool false))) else bif c == 0 then bif lab a then K (DV.c (D.v (Value.bool (val8 b)))) else K (DV.c (D.v (Value.bool false))) else bif c == 1 then bif lab a then K (DV.c (D.v (Value.bool (lab b)))) else K (DV.c (D.v (Value.bool false))) else bif c == 2 then bif lab a then bif lab b then bif decide (d ≥ 0) then K (DV.c (D.v (Value.bool (decide (d < 4))))) else K (DV.c (D.v (Value.bool false))) else K (DV.c (D.v (Value.bool false))) else K (DV.c (D.v (Value.bool false))) else bif c == 3 then bif lab a then bif lab b then bif decide (d ≥ 0) then K (DV.c (D.v (Value.bool (decide (d < 4))))) else K (DV.c (D.v (Value.bool false))) else K (DV.c (D.v (Value.bool false))) else K (DV.c (D.v (Value.bool false))) else bif c == 4 then bif lab a then bif decide (b ≥ 0) then K (DV.c (D.v (Value.bool (decide (b ≤ 16))))) else K (DV.c (D.v (Value.bool false))) else K (DV.c (D.v (Value.bool false))) else bif c == 5 then K (DV.c (D.v (Value.bool true))) else bif c == 6 then K (DV.c (D.v (Value.bool (val8 a)))) else K (DV.c (D.v (Value.bool false)))) := by kernel_rfl
theorem Zul (c a b d : Int) (K : DV → Prop) : (ask Tryz.prog [(136, sB lab), (91, sB val8), (71, sB lab), (119, sUp)] Tryz.f184 [.agg [vi c, vi a, vi b, vi d]] K) = (bif c == 0 then bif lab a then bif val8 b then K (DV.c (D.v (Value.bool (d == 0)))) else K (DV.c (D.v (Value.bool false))) else K (DV.c (D.v (Value.bool false))) else bif c == 1 then bif lab a then bif lab b then K (DV.c (D.v (Value.bool (d == 0)))) else K (DV.c (D.v (Value.bool false))) else K (DV.c (D.v (Value.bool false))) else bif c == 2 then bif lab a then bif lab b then K (DV.c (D.v (Value.bool (upto d (0) (3))))) else K (DV.c (D.v (Value.bool false))) else K (DV.c (D.v (Value.bool false))) else bif c == 3 then bif lab a then bif lab b then K (DV.c (D.v (Value.bool (upto d (0) (3))))) else K (DV.c (D.v (Value.bool false))) else K (DV.c (D.v (Value.bool false))) else bif c == 4 then bif lab a then bif upto b (0) (16) then K (DV.c (D.v (Value.bool (d == 0)))) else K (DV.c (D.v (Value.bool false))) else K (DV.c (D.v (Value.bool false))) else bif c == 5 then K (DV.c (D.v (Value.bool (eqI [c, a, b, d] [5, 0, 0, 0])))) else bif c == 6 then bif val8 a then bif b == 0 then K (DV.c (D.v (Value.bool (d == 0)))) else K (DV.c (D.v (Value.bool false))) else K (DV.c (D.v (Value.bool false))) else K (DV.c (D.v (Value.bool false)))) := by kernel_rfl
theorem ZuJ : Zad Tryz.prog 193 Zn8 := o_of Tryz.func193 (by kernel_rfl) rfl fun ds Q h => by
  unfold Zn8 at h; split at h
  · rename_i c a b d
    refine ⟨_, Zak .nil mixed Tryz.func193 rfl rfl rfl ?_, rfl, rfl, h⟩
    rw [Zvc]
    by_cases h0 : c = 0
    · subst h0; rfl
    by_cases h1 : c = 1
    · subst h1; rfl
    by_cases h2 : c = 2
    · subst h2; rfl
    by_cases h3 : c = 3
    · subst h3; rfl
    by_cases h4 : c = 4
    · subst h4; rfl
    by_cases h6 : c = 6
    · subst h6; rfl
    simp [nA, nB, nD, h0, h1, h2, h3, h4, h6]
  · exact h.elim
theorem bz (d : Int) : (0 == d) = (d == 0) := by
  by_cases h : d = 0
  · subst h; rfl
  · rw [beq_eq_false_iff_ne.2 h, beq_eq_false_iff_ne.2 (fun e => h e.symm)]
theorem ZvV : Zad Tryz.prog 183 ZjL := o_of Tryz.func183 (by kernel_rfl) rfl fun ds Q h => by
  unfold ZjL at h; split at h
  · rename_i c a b d
    refine ⟨_, Zak (.cons ZuJ (.cons oReg (.cons oVal (.cons oLab .nil)))) mixed Tryz.func183 rfl rfl rfl ?_, rfl, rfl, h⟩
    rw [Zwi]
    by_cases h0 : c = 0
    · subst h0
      by_cases hd : d = 0
      · subst hd; cases ha : lab a <;> cases hb : val8 b <;> simp [imay, nA, nB, nD, eqI, ha, hb]
      · simp [imay, nA, nB, nD, eqI, bz, hd]
    by_cases h1 : c = 1
    · subst h1
      by_cases hd : d = 0
      · subst hd; cases ha : lab a <;> cases hb : lab b <;> simp [imay, nA, nB, nD, eqI, ha, hb]
      · simp [imay, nA, nB, nD, eqI, bz, hd]
    by_cases h2 : c = 2
    · subst h2
      rw [lt4]
      have hl : lab d = (decide (d ≥ 0) && decide (d ≤ 3)) := rfl
      by_cases hd : 0 ≤ d <;> cases ha : lab a <;> cases hb : lab b <;> simp [imay, nA, nB, nD, eqI, ha, hb, hl, hd]
    by_cases h3 : c = 3
    · subst h3
      rw [lt4]
      have hl : lab d = (decide (d ≥ 0) && decide (d ≤ 3)) := rfl
      by_cases hd : 0 ≤ d <;> cases ha : lab a <;> cases hb : lab b <;> simp [imay, nA, nB, nD, eqI, ha, hb, hl, hd]
    by_cases h4 : c = 4
    · subst h4
      by_cases hd : d = 0
      · subst hd; cases ha : lab a <;> cases hb : decide (b ≥ 0) <;> simp [imay, nA, nB, nD, eqI, ha, upto, hb]
      · simp [imay, nA, nB, nD, eqI, bz, hd]
    by_cases h5 : c = 5
    · subst h5
      by_cases hd : d = 0
      · subst hd
        by_cases ha : a = 0
        · subst ha
          by_cases hb : b = 0
          · subst hb; rfl
          · simp [imay, nA, nB, nD, eqI, bz, hb]
        · simp [imay, nA, nB, nD, eqI, bz, ha]
      · simp [imay, nA, nB, nD, eqI, bz, hd]
    by_cases h6 : c = 6
    · subst h6
      by_cases hd : d = 0
      · subst hd
        by_cases hb : b = 0
        · subst hb; cases ha : val8 a <;> simp [imay, nA, nB, nD, eqI, ha]
        · simp [imay, nA, nB, nD, eqI, bz, hb]
      · simp [imay, nA, nB, nD, eqI, bz, hd]
    simp [imay, h0, h1, h2, h3, h4, h5, h6]
  · exact h.elim
theorem ZtM : Zad Tryz.prog 184 ZjL := o_of Tryz.func184 (by kernel_rfl) rfl fun ds Q h => by
  unfold ZjL at h; split at h
  · rename_i c a b d
    refine ⟨_, Zak (.cons Zu3 (.cons ZgJ (.cons Znh (.cons oUp .nil)))) mixed Tryz.func184 rfl rfl rfl ?_, rfl, rfl, h⟩
    rw [Zul]
    have hl : lab d = upto d 0 3 := rfl
    by_cases h0 : c = 0
    · subst h0; cases ha : lab a <;> cases hb : val8 b <;> simp [imay, ha, hb]
    by_cases h1 : c = 1
    · subst h1; cases ha : lab a <;> cases hb : lab b <;> simp [imay, ha, hb]
    by_cases h2 : c = 2
    · subst h2; cases ha : lab a <;> cases hb : lab b <;> simp [imay, ha, hb, hl]
    by_cases h3 : c = 3
    · subst h3; cases ha : lab a <;> cases hb : lab b <;> simp [imay, ha, hb, hl]
    by_cases h4 : c = 4
    · subst h4; cases ha : lab a <;> cases hb : upto b 0 16 <;> simp [imay, ha, hb]
    by_cases h5 : c = 5
    · subst h5; simp [imay, eqI]
    by_cases h6 : c = 6
    · subst h6; cases ha : val8 a <;> cases hb : (b == 0) <;> simp_all [imay]
    simp [imay, h0, h1, h2, h3, h4, h5, h6]
  · exact h.elim
def ZuF (r : List Int) : Bool := imay (r.getD 0 0) (r.getD 1 0) (r.getD 2 0) (r.getD 3 0)
def pI (n i : Nat) (r : List Int) : Bool := ZuF r && !(r.getD 0 0 == 4 && (decide (r.getD 2 0 ≤ (i : Int)) || decide (r.getD 2 0 > (n : Int))))
def Zcf (l : List (List Int)) (k : Nat) : Bool := (List.range k).all fun i => pI l.length i (l.getD i [])
def pmay (l : List (List Int)) : Bool := Zcf l l.length && decide (l.length ≤ 16)
theorem ZiA (l : List (List Int)) (i : Nat) : Zcf l (i + 1) = (Zcf l i && pI l.length i (l.getD i [])) := by simp [Zcf, List.range_succ]
theorem Zmy {l : List (List Int)} {i n : Nat} (h : i ≤ n) (hc : Zcf l n = true) : Zcf l i = true := by
  simp only [Zcf, List.all_eq_true, List.mem_range] at hc ⊢
  exact fun j hj => hc j (by omega)
def stPM (R sp : List (List D)) (i : Int) (p : Bool) : X := ⟨mkT 37 [(0, aS 4 R sp), (2, ab p), (5, aS 4 R sp), (6, ai R.length), (7, ai i)], [], [], []⟩
def vPM (R sp : List (List D)) (y : X) : X := stPM R sp (Zcn y 7) (ZjQ y 2)
theorem ePMr (R sp : List (List D)) (i : Int) (p : Bool) (N : X → Prop) (E : Exit → X → Prop) : (ZaR band bor Tryz.prog [(183, ZjL)] [] Tryz.f144 0 [0, 2, 5, 6, 7] [] (vPM R sp) (vPM R sp) N E (stPM R sp i p)) = (bif decide (i < @Nat.cast Int _ (List.length R)) then bif decide (0 ≤ i) && decide (i < @Nat.cast Int _ (List.length R)) then bif isJ [IntKind.i64, IntKind.i64, IntKind.i64, IntKind.i64] (List.drop (0) (List.getD R (Int.toNat i) [])) then bif !imay (hdJ (List.drop (0) (List.getD R (Int.toNat i) []))) (hdJ (List.tail (List.drop (0) (List.getD R (Int.toNat i) [])))) (hdJ (List.tail (List.tail (List.drop (0) (List.getD R (Int.toNat i) []))))) (hdJ (List.tail (List.tail (List.tail (List.drop (0) (List.getD R (Int.toNat i) [])))))) then stPM R sp i false = stPM R sp i false ∧ E Exit.ret (stPM R sp i false) else bif hdJ (List.drop (0) (List.getD R (Int.toNat i) [])) == 4 then bif decide (hdJ (List.tail (List.tail (List.drop (0) (List.getD R (Int.toNat i) [])))) ≤ i) then stPM R sp i false = stPM R sp i false ∧ E Exit.ret (stPM R sp i false) else bif decide (hdJ (List.tail (List.tail (List.drop (0) (List.getD R (Int.toNat i) [])))) > @Nat.cast Int _ (List.length R)) then stPM R sp i false = stPM R sp i false ∧ E Exit.ret (stPM R sp i false) else stPM R sp (IntKind.wrap IntKind.i64 (i + 1)) p = stPM R sp (IntKind.wrap IntKind.i64 (i + 1)) p ∧ N (stPM R sp (IntKind.wrap IntKind.i64 (i + 1)) p) else stPM R sp (IntKind.wrap IntKind.i64 (i + 1)) p = stPM R sp (IntKind.wrap IntKind.i64 (i + 1)) p ∧ N (stPM R sp (IntKind.wrap IntKind.i64 (i + 1)) p) else False else False else stPM R sp i p = stPM R sp i p ∧ E (Exit.exit (0)) (stPM R sp i p)) := by kernel_rfl
def ZsA (l : List (List Int)) (sp : List (List D)) : LSum := fun Q x => x.only [0, 2, 5, 6, 7] [] = stPM (mZ l) sp 0 false ∧ (Zcf l l.length = false → ∀ i : Int, Q .ret (stPM (mZ l) sp i false)) ∧ (Zcf l l.length = true → Q (.exit 0) (stPM (mZ l) sp l.length false))
theorem ePM (l : List (List Int)) (sp : List (List D)) (K : DV → Prop) : (askL Tryz.prog [] [(2, ZsA l sp)] Tryz.f144 [dS 4 (mZ l) sp] K) = (stPM (mZ l) sp (0) false = stPM (mZ l) sp (0) false ∧ (Zcf l (List.length l) = false → ∀ (i : Int), K (DV.c (D.v (Value.bool false)))) ∧ (Zcf l (List.length l) = true → K (DV.c (D.v (Value.bool (decide (@Nat.cast Int _ (List.length (mZ l)) ≤ 16))))))) := by kernel_rfl
def ZbS (R sp : List (List D)) (i : Int) (p : Bool) : X := ⟨mkT 46 [(0, aS 4 R sp), (2, ab p), (3, ai i)], [], [], []⟩
def vRPM (R sp : List (List D)) (y : X) : X := ZbS R sp (Zcn y 3) (ZjQ y 2)
theorem Zvs (R sp : List (List D)) (i : Int) (p : Bool) (N : X → Prop) (E : Exit → X → Prop) : (ZaR band bor Tryz.prog [(184, ZjL)] [] Tryz.f147 0 [0, 2, 3] [] (vRPM R sp) (vRPM R sp) N E (ZbS R sp i p)) = (bif decide (i < @Nat.cast Int _ (List.length R)) then bif decide (0 ≤ i) && decide (i < @Nat.cast Int _ (List.length R)) then bif isJ [IntKind.i64, IntKind.i64, IntKind.i64, IntKind.i64] (List.drop (0) (List.getD R (Int.toNat i) [])) then bif !imay (hdJ (List.drop (0) (List.getD R (Int.toNat i) []))) (hdJ (List.tail (List.drop (0) (List.getD R (Int.toNat i) [])))) (hdJ (List.tail (List.tail (List.drop (0) (List.getD R (Int.toNat i) []))))) (hdJ (List.tail (List.tail (List.tail (List.drop (0) (List.getD R (Int.toNat i) [])))))) then ZbS R sp i false = ZbS R sp i false ∧ E Exit.ret (ZbS R sp i false) else bif decide (0 ≤ i) && decide (i < @Nat.cast Int _ (List.length R)) then bif isJ [IntKind.i64] (List.drop (0) (List.getD R (Int.toNat i) [])) then bif hdJ (List.drop (0) (List.getD R (Int.toNat i) [])) == 4 then bif decide (0 ≤ i) && decide (i < @Nat.cast Int _ (List.length R)) then bif isJ [IntKind.i64] (List.drop (2) (List.getD R (Int.toNat i) [])) then bif decide (hdJ (List.drop (2) (List.getD R (Int.toNat i) [])) ≤ i) then ZbS R sp i false = ZbS R sp i false ∧ E Exit.ret (ZbS R sp i false) else bif decide (0 ≤ i) && decide (i < @Nat.cast Int _ (List.length R)) then bif isJ [IntKind.i64] (List.drop (2) (List.getD R (Int.toNat i) [])) then bif decide (hdJ (List.drop (2) (List.getD R (Int.toNat i) [])) > @Nat.cast Int _ (List.length R)) then ZbS R sp i false = ZbS R sp i false ∧ E Exit.ret (ZbS R sp i false) else ZbS R sp (IntKind.wrap IntKind.i64 (i + 1)) p = ZbS R sp (IntKind.wrap IntKind.i64 (i + 1)) p ∧ N (ZbS R sp (IntKind.wrap IntKind.i64 (i + 1)) p) else False else False else False else False else ZbS R sp (IntKind.wrap IntKind.i64 (i + 1)) p = ZbS R sp (IntKind.wrap IntKind.i64 (i + 1)) p ∧ N (ZbS R sp (IntKind.wrap IntKind.i64 (i + 1)) p) else False else False else False else False else ZbS R sp i p = ZbS R sp i p ∧ E (Exit.exit (0)) (ZbS R sp i p)) := by kernel_rfl
def ZoD (l : List (List Int)) (sp : List (List D)) : LSum := fun Q x => x.only [0, 2, 3] [] = ZbS (mZ l) sp 0 false ∧ (Zcf l l.length = false → ∀ i : Int, Q .ret (ZbS (mZ l) sp i false)) ∧ (Zcf l l.length = true → Q (.exit 0) (ZbS (mZ l) sp l.length false))
theorem eRPM (l : List (List Int)) (sp : List (List D)) (K : DV → Prop) : (askL Tryz.prog [] [(2, ZoD l sp)] Tryz.f147 [dS 4 (mZ l) sp] K) = (ZbS (mZ l) sp (0) false = ZbS (mZ l) sp (0) false ∧ (Zcf l (List.length l) = false → ∀ (i : Int), K (DV.c (D.v (Value.bool false)))) ∧ (Zcf l (List.length l) = true → K (DV.c (D.v (Value.bool (decide (@Nat.cast Int _ (List.length (mZ l)) ≤ 16))))))) := by kernel_rfl
end

section
open Go Go.Proofs
theorem ZwS {l : List (List Int)} {sp : List (List D)} (hw : wid 4 l) (hn : l.length ≤ 9223372036854775807) (Q : Exit → X → Prop) (x : X) (h : ZsA l sp Q x) : XWP Tryz.prog (.loop (Zar Tryz.f144 0)) Q x := by
  obtain ⟨h1, h2, h3⟩ := h
  refine ZaB (ι := Nat) (H := hkA band bor [(183, ZjL)] []) (fn := Tryz.f144) (i := 0) (ts := [0, 2, 5, 6, 7]) (ks := []) (ZaL (.cons ZvV .nil)) mixed (Zai rfl)
    (fun i => stPM (mZ l) sp i false) (fun i => i ≤ l.length ∧ Zcf l i = true) (fun i => l.length - i) 0 (vPM (mZ l) sp) (vPM (mZ l) sp) (fun i hp => ?_) ⟨Nat.zero_le _, rfl⟩ h1
  obtain ⟨hi, hj⟩ := hp
  show ZaR band bor Tryz.prog _ _ Tryz.f144 0 _ _ _ _ _ _ _
  rw [ePMr]
  by_cases hl : i < l.length
  · have wi : IntKind.wrap .i64 ((i : Int) + 1) = ((i + 1 : Nat) : Int) := Zan (n := 1) (by omega)
    have hj1 : isJ [IntKind.i64, IntKind.i64, IntKind.i64, IntKind.i64] ((mZ l).getD i []) = true := Zav (j := 0) (n := 4) hw hl (by omega)
    simp only [Zaf, Int.ofNat_lt, hl, decide_true, cond_true, Int.natCast_nonneg, Bool.and_self, Int.toNat_natCast, ZaM, ZaO, Zbo, hj1, List.drop_zero, ZaJ, true_and, wi]
    have hp : pI l.length i (l.getD i []) = (imay ((l.getD i []).getD 0 0) ((l.getD i []).getD 1 0) ((l.getD i []).getD 2 0) ((l.getD i []).getD 3 0) && !((l.getD i []).getD 0 0 == 4 && (decide ((l.getD i []).getD 2 0 ≤ (i : Int)) || decide ((l.getD i []).getD 2 0 > (l.length : Int))))) := rfl
    have bad : pI l.length i (l.getD i []) = false → Zcf l l.length = false := fun hb => by
      rw [Bool.eq_false_iff]; intro hc
      have := Zmy (i := i + 1) (by omega) hc
      rw [ZiA, hb] at this; simp at this
    have good : pI l.length i (l.getD i []) = true → Zcf l (i + 1) = true := fun hb => by rw [ZiA, hj, hb]; rfl
    generalize (l.getD i []).getD 0 0 = c at *
    generalize (l.getD i []).getD 1 0 = a at *
    generalize (l.getD i []).getD 2 0 = b at *
    generalize (l.getD i []).getD 3 0 = d at *
    have next : pI l.length i (l.getD i []) = true → ∃ p', l.length - p' < l.length - i ∧ (p' ≤ l.length ∧ Zcf l p' = true) ∧ stPM (mZ l) sp ((i + 1 : Nat) : Int) false = stPM (mZ l) sp (p' : Int) false := fun hb => ⟨i + 1, by omega, ⟨hl, good hb⟩, rfl⟩
    cases hm : imay c a b d with
    | false => exact h2 (bad (by rw [hp, hm]; rfl)) _
    | true =>
      cases hc : (c == 4) with
      | false => exact next (by rw [hp, hm, hc]; rfl)
      | true =>
        cases hb1 : decide (b ≤ (i : Int)) with
        | true => exact h2 (bad (by rw [hp, hm, hc, hb1]; rfl)) _
        | false =>
          cases hb2 : decide (b > (l.length : Int)) with
          | true => exact h2 (bad (by rw [hp, hm, hc, hb1, hb2]; rfl)) _
          | false => exact next (by rw [hp, hm, hc, hb1, hb2]; rfl)
  · have e : i = l.length := by omega
    subst e
    simp only [Zaf, Int.ofNat_lt, Nat.lt_irrefl, decide_false, cond_false, true_and]
    exact h3 hj
theorem Zug {l : List (List Int)} {sp : List (List D)} (hw : wid 4 l) (hn : l.length ≤ 9223372036854775807) (Q : Exit → X → Prop) (x : X) (h : ZoD l sp Q x) : XWP Tryz.prog (.loop (Zar Tryz.f147 0)) Q x := by
  obtain ⟨h1, h2, h3⟩ := h
  refine ZaB (ι := Nat) (H := hkA band bor [(184, ZjL)] []) (fn := Tryz.f147) (i := 0) (ts := [0, 2, 3]) (ks := []) (ZaL (.cons ZtM .nil)) mixed (Zai rfl)
    (fun i => ZbS (mZ l) sp i false) (fun i => i ≤ l.length ∧ Zcf l i = true) (fun i => l.length - i) 0 (vRPM (mZ l) sp) (vRPM (mZ l) sp) (fun i hp => ?_) ⟨Nat.zero_le _, rfl⟩ h1
  obtain ⟨hi, hj⟩ := hp
  show ZaR band bor Tryz.prog _ _ Tryz.f147 0 _ _ _ _ _ _ _
  rw [Zvs]
  by_cases hl : i < l.length
  · have wi : IntKind.wrap .i64 ((i : Int) + 1) = ((i + 1 : Nat) : Int) := Zan (n := 1) (by omega)
    have hj1 : isJ [IntKind.i64, IntKind.i64, IntKind.i64, IntKind.i64] ((mZ l).getD i []) = true := Zav (j := 0) (n := 4) hw hl (by omega)
    have hj2 : isJ [IntKind.i64] ((mZ l).getD i []) = true := ZbR (j := 0) hw hl (by omega)
    have hj3 : isJ [IntKind.i64] (((mZ l).getD i []).drop 2) = true := ZbR (j := 2) hw hl (by omega)
    simp only [Zaf, Int.ofNat_lt, hl, decide_true, cond_true, Int.natCast_nonneg, Bool.and_self, Int.toNat_natCast, ZaM, ZaO, Zbo, hj1, hj2, hj3, List.drop_zero, ZaJ, ZbL, true_and, wi]
    have hp : pI l.length i (l.getD i []) = (imay ((l.getD i []).getD 0 0) ((l.getD i []).getD 1 0) ((l.getD i []).getD 2 0) ((l.getD i []).getD 3 0) && !((l.getD i []).getD 0 0 == 4 && (decide ((l.getD i []).getD 2 0 ≤ (i : Int)) || decide ((l.getD i []).getD 2 0 > (l.length : Int))))) := rfl
    have bad : pI l.length i (l.getD i []) = false → Zcf l l.length = false := fun hb => by
      rw [Bool.eq_false_iff]; intro hc
      have := Zmy (i := i + 1) (by omega) hc
      rw [ZiA, hb] at this; simp at this
    have good : pI l.length i (l.getD i []) = true → Zcf l (i + 1) = true := fun hb => by rw [ZiA, hj, hb]; rfl
    generalize (l.getD i []).getD 0 0 = c at *
    generalize (l.getD i []).getD 1 0 = a at *
    generalize (l.getD i []).getD 2 0 = b at *
    generalize (l.getD i []).getD 3 0 = d at *
    have next : pI l.length i (l.getD i []) = true → ∃ p', l.length - p' < l.length - i ∧ (p' ≤ l.length ∧ Zcf l p' = true) ∧ ZbS (mZ l) sp ((i + 1 : Nat) : Int) false = ZbS (mZ l) sp (p' : Int) false := fun hb => ⟨i + 1, by omega, ⟨hl, good hb⟩, rfl⟩
    cases hm : imay c a b d with
    | false => exact h2 (bad (by rw [hp, hm]; rfl)) _
    | true =>
      cases hc : (c == 4) with
      | false => exact next (by rw [hp, hm, hc]; rfl)
      | true =>
        cases hb1 : decide (b ≤ (i : Int)) with
        | true => exact h2 (bad (by rw [hp, hm, hc, hb1]; rfl)) _
        | false =>
          cases hb2 : decide (b > (l.length : Int)) with
          | true => exact h2 (bad (by rw [hp, hm, hc, hb1, hb2]; rfl)) _
          | false => exact next (by rw [hp, hm, hc, hb1, hb2]; rfl)
  · have e : i = l.length := by omega
    subst e
    simp only [Zaf, Int.ofNat_lt, Nat.lt_irrefl, decide_false, cond_false, true_and]
    exact h3 hj
def ZnA : Spec := fun ds Q => match ds with | [.c (.s 0 4 R sp)] => cond (okZ 4 R) (Q (B (pmay (toZ R)))) False | _ => False
theorem ZvR : Zad Tryz.prog 144 ZnA := o_of Tryz.func144 (by kernel_rfl) rfl fun ds Q h => by
  unfold ZnA at h; split at h
  · rename_i R sp
    obtain ⟨h1, h2⟩ := Zag h
    obtain ⟨e1, w1, n1⟩ := Zah h1
    rw [e1]
    rw [← Zal R] at n1
    generalize toZ R = l at *
    refine ⟨_, ZaC (l := []) (m := [(2, ZsA l sp)]) .nil mixed (Za7 rfl (by kernel_rfl) (ZwS w1 n1)) Tryz.func144 rfl rfl rfl ?_, rfl, rfl, h2⟩
    rw [ePM, Zaf]
    have e16 : decide ((l.length : Int) ≤ 16) = decide (l.length ≤ 16) := by congr 1; exact propext ⟨fun h => by omega, fun h => by omega⟩
    refine ⟨rfl, fun hb _ => ?_, fun hb => ?_⟩
    · simp [pmay, hb]
    · rw [e16]; simp [pmay, hb]
  · exact h.elim
theorem Zuu : Zad Tryz.prog 147 ZnA := o_of Tryz.func147 (by kernel_rfl) rfl fun ds Q h => by
  unfold ZnA at h; split at h
  · rename_i R sp
    obtain ⟨h1, h2⟩ := Zag h
    obtain ⟨e1, w1, n1⟩ := Zah h1
    rw [e1]
    rw [← Zal R] at n1
    generalize toZ R = l at *
    refine ⟨_, ZaC (l := []) (m := [(2, ZoD l sp)]) .nil mixed (Za7 rfl (by kernel_rfl) (Zug w1 n1)) Tryz.func147 rfl rfl rfl ?_, rfl, rfl, h2⟩
    rw [eRPM, Zaf]
    have e16 : decide ((l.length : Int) ≤ 16) = decide (l.length ≤ 16) := by congr 1; exact propext ⟨fun h => by omega, fun h => by omega⟩
    refine ⟨rfl, fun hb _ => ?_, fun hb => ?_⟩
    · simp [pmay, hb]
    · rw [e16]; simp [pmay, hb]
  · exact h.elim
theorem oId : Zad Tryz.prog 142 (sB idm) := oB Tryz.func142 (by kernel_rfl) rfl fun x => Zak (.cons oIn .nil) mixed Tryz.func142 rfl rfl rfl (by
  have e : ask Tryz.prog [(150, sIn)] Tryz.f142 [I x] (fun r => r = B (idm x)) = (B (idm x) = B (idm x)) := by kernel_rfl
  rw [e])
theorem oRId : Zad Tryz.prog 145 (sB idm) := oB Tryz.func145 (by kernel_rfl) rfl fun x => Zak (.cons oUp .nil) mixed Tryz.func145 rfl rfl rfl (by
  have e : ask Tryz.prog [(119, sUp)] Tryz.f145 [I x] (fun r => r = B (idm x)) = (B (idm x) = B (idm x)) := by kernel_rfl
  rw [e])
def und (a b : Int) : Bool := bor a b == b
def sUnd : Spec := fun ds Q => match ds with | [.c (.v (.int .i64 a)), .c (.v (.int .i64 b))] => Q (B (und a b)) | _ => False
theorem eUnd (o : Int → Int → Int) (a b : Int) (K : DV → Prop) : (askA band o Tryz.prog [] [] Tryz.f143 [I a, I b] K) = (K (DV.c (D.v (Value.bool (o a b == b))))) := by kernel_rfl
theorem Zwr (o : Int → Int → Int) (a b : Int) (K : DV → Prop) : (askA band o Tryz.prog [] [] Tryz.f146 [I a, I b] K) = (K (DV.c (D.v (Value.bool (o a b == b))))) := by kernel_rfl
theorem oUnd : Zad Tryz.prog 143 sUnd := o_of Tryz.func143 (by kernel_rfl) rfl fun ds Q h => by
  unfold sUnd at h; split at h
  · refine ⟨_, ZaC (l := []) (m := []) .nil mixed (Zai rfl) Tryz.func143 rfl rfl rfl (by
      show askA band bor Tryz.prog _ _ Tryz.f143 _ _
      rw [eUnd]; rfl), rfl, rfl, h⟩
  · exact h.elim
theorem Zve : Zad Tryz.prog 146 sUnd := o_of Tryz.func146 (by kernel_rfl) rfl fun ds Q h => by
  unfold sUnd at h; split at h
  · refine ⟨_, ZaC (l := []) (m := []) .nil mixed (Zai rfl) Tryz.func146 rfl rfl rfl (by
      show askA band bor Tryz.prog _ _ Tryz.f146 _ _
      rw [Zwr]; rfl), rfl, rfl, h⟩
  · exact h.elim
def smay (i g c : Int) (l : List (List Int)) : Bool := idm i && (lab g && (lab c && (und g c && pmay l)))
abbrev Zpv (i g c : Int) (R sp : List (List D)) : DV := .agg [vi i, vi g, vi c, .s 0 4 R sp]
theorem ZvP (i g c : Int) (R sp : List (List D)) (K : DV → Prop) : (ask Tryz.prog [(142, sB idm), (64, sB lab), (143, sUnd), (144, ZnA)] Tryz.f89 [Zpv i g c R sp] K) = (bif idm i then bif lab g then bif lab c then bif und g c then bif okZ (4) R then K (DV.c (D.v (Value.bool (pmay (toZ R))))) else False else K (DV.c (D.v (Value.bool false))) else K (DV.c (D.v (Value.bool false))) else K (DV.c (D.v (Value.bool false))) else K (DV.c (D.v (Value.bool false)))) := by kernel_rfl
theorem ZtS (i g c : Int) (R sp : List (List D)) (K : DV → Prop) : (ask Tryz.prog [(145, sB idm), (71, sB lab), (146, sUnd), (147, ZnA)] Tryz.f92 [Zpv i g c R sp] K) = (bif idm i then bif lab g then bif lab c then bif und g c then bif okZ (4) R then K (DV.c (D.v (Value.bool (pmay (toZ R))))) else False else K (DV.c (D.v (Value.bool false))) else K (DV.c (D.v (Value.bool false))) else K (DV.c (D.v (Value.bool false))) else K (DV.c (D.v (Value.bool false)))) := by kernel_rfl
def Zl4 : Spec := fun ds Q => match ds with | [.agg [.v (.int .i64 i), .v (.int .i64 g), .v (.int .i64 c), .s 0 4 R sp]] => cond (okZ 4 R) (Q (B (smay i g c (toZ R)))) False | _ => False
theorem ZrF (i g c : Int) (R sp : List (List D)) (K : DV → Prop) : (ask Tryz.prog [(92, Zl4)] Tryz.f51 [Zpv i g c R sp] K) = (bif okZ (4) R then bif !smay i g c (toZ R) then K (DV.tup [DV.agg [D.v (Value.int IntKind.i64 (0)), D.v (Value.int IntKind.i64 (0)), D.v (Value.int IntKind.i64 (0)), D.v (Value.slice none (0) (0)), D.v (Value.int IntKind.i64 (0)), D.v (Value.int IntKind.i64 (0)), D.v (Value.int IntKind.i64 (0)), D.v (Value.int IntKind.i64 (0)), D.v (Value.int IntKind.i64 (0)), D.v (Value.int IntKind.i64 (0)), D.v (Value.slice none (0) (0)), D.v (Value.slice none (0) (0)), D.v (Value.int IntKind.i64 (0)), D.v (Value.int IntKind.i64 (0)), D.v (Value.int IntKind.i64 (0)), D.v (Value.int IntKind.i64 (0)), D.v (Value.int IntKind.i64 (0))], DV.c (D.v (Value.int IntKind.i64 (1100)))]) else bif allV R then bif true && (decide ((0 + List.length R) * 32 ≤ 140737488355328) && decide (0 + List.length R ≤ 9223372036854775807)) then bif decide (0 + List.length R ≤ List.length ([] ++ R)) && List.all ([] ++ R) fun r => List.all r D.keeps then K (DV.tup [DV.agg [D.v (Value.int IntKind.i64 i), D.v (Value.int IntKind.i64 g), D.v (Value.int IntKind.i64 c), D.s (1) (4) (List.take (0 + List.length R) ([] ++ R)) (List.take (0 + List.length R - (0 + List.length R)) (List.drop (0 + List.length R) ([] ++ R))), D.v (Value.int IntKind.i64 (0)), D.v (Value.int IntKind.i64 (0)), D.v (Value.int IntKind.i64 (0)), D.v (Value.int IntKind.i64 (0)), D.v (Value.int IntKind.i64 (0)), D.v (Value.int IntKind.i64 (0)), D.v (Value.slice none (0) (0)), D.v (Value.slice none (0) (0)), D.v (Value.int IntKind.i64 (0)), D.v (Value.int IntKind.i64 (0)), D.v (Value.int IntKind.i64 (0)), D.v (Value.int IntKind.i64 (0)), D.v (Value.int IntKind.i64 (0))], DV.c (D.v (Value.int IntKind.i64 (0)))]) else False else False else False else False) := by kernel_rfl
end

section
open Go Go.Proofs
theorem bifK (p q : Bool) (x : DV) : (bif p then (DV.c (.v (.bool q)) = x) else (DV.c (.v (.bool false)) = x)) = (DV.c (.v (.bool (p && q))) = x) := by cases p <;> rfl
theorem ZwE : Zad Tryz.prog 89 Zl4 := o_of Tryz.func89 (by kernel_rfl) rfl fun ds Q h => by
  unfold Zl4 at h; split at h
  · obtain ⟨h1, h2⟩ := Zag h
    refine ⟨_, Zak (.cons oId (.cons oLab (.cons oUnd (.cons ZvR .nil)))) mixed Tryz.func89 rfl rfl rfl ?_, rfl, rfl, h2⟩
    rw [ZvP, h1, cond_true]
    simp only [bifK]
    rfl
  · exact h.elim
theorem Zo9 : Zad Tryz.prog 92 Zl4 := o_of Tryz.func92 (by kernel_rfl) rfl fun ds Q h => by
  unfold Zl4 at h; split at h
  · obtain ⟨h1, h2⟩ := Zag h
    refine ⟨_, Zak (.cons oRId (.cons Znh (.cons Zve (.cons Zuu .nil)))) mixed Tryz.func92 rfl rfl rfl ?_, rfl, rfl, h2⟩
    rw [ZtS, h1, cond_true]
    simp only [bifK]
    rfl
  · exact h.elim
abbrev nilD : D := .v (.slice none 0 0)
abbrev ZoA (i g c : Int) (p : D) : DV := .agg [vi i, vi g, vi c, p, vi 0, vi 0, vi 0, vi 0, vi 0, vi 0, nilD, nilD, vi 0, vi 0, vi 0, vi 0, vi 0]
def Zsc : Spec := fun ds Q => match ds with
  | [.agg [.v (.int .i64 i), .v (.int .i64 g), .v (.int .i64 c), .s 0 4 R sp]] => cond (okZ 4 R && decide (R.length ≤ 4398046510977)) (cond (smay i g c (toZ R)) (Q (.tup [ZoA i g c (.s 1 4 R []), I 0])) (Q (.tup [ZoA 0 0 0 nilD, I 1100]))) False
  | _ => False
theorem ZoR {i g c : Int} {R : List (List D)} (h : allV R = true) : (DV.tup [ZoA i g c (.s 1 4 R []), I 0]).pureOwn = true := by
  simp [DV.pureOwn, DV.pureOwn.go, DV.pure1, D.pureOwn, ownL, ZaQ h, ZeI]
theorem ZuY : Zad Tryz.prog 51 Zsc := o_of Tryz.func51 (by kernel_rfl) rfl fun ds Q h => by
  unfold Zsc at h; split at h
  · rename_i i g c R sp
    obtain ⟨h1, h2⟩ := Zag h
    simp only [Bool.and_eq_true, decide_eq_true_eq] at h1
    obtain ⟨hR, hl⟩ := h1
    cases hm : smay i g c (toZ R) with
    | true =>
      rw [hm] at h2
      refine ⟨_, Zak (.cons Zo9 .nil) mixed Tryz.func51 rfl rfl rfl ?_, ZoR (Zaa hR), rfl, h2⟩
      rw [ZrF]
      have g1 : R.length * 32 ≤ 140737488355328 := by omega
      have g2 : R.length ≤ 9223372036854775807 := by omega
      simp only [hR, g1, g2, Zaa hR, hm, Zaq (Zaa hR), decide_true, Bool.and_self, Bool.not_true, cond_true, cond_false, List.nil_append, Nat.le_refl, List.take_length, Nat.zero_add, Nat.sub_self, List.take_zero]
    | false =>
      rw [hm] at h2
      refine ⟨_, Zak (.cons Zo9 .nil) mixed Tryz.func51 rfl rfl rfl ?_, rfl, rfl, h2⟩
      rw [ZrF]
      simp only [hR, hm, Bool.not_false, cond_true]
  · exact h.elim
end

section
open Go Go.Proofs
theorem oClk : Zad Tryz.prog 102 (sB clk) := oB Tryz.func102 (by kernel_rfl) rfl fun x => Zak (.cons oIn .nil) mixed Tryz.func102 rfl rfl rfl (by
  have e : ask Tryz.prog [(150, sIn)] Tryz.f102 [I x] (fun r => r = B (clk x)) = (B (clk x) = B (clk x)) := by kernel_rfl
  rw [e])
theorem Zhf : Zad Tryz.prog 69 (sB clk) := oB Tryz.func69 (by kernel_rfl) rfl fun x => Zak (.cons oUp .nil) mixed Tryz.func69 rfl rfl rfl (by
  have e : ask Tryz.prog [(119, sUp)] Tryz.f69 [I x] (fun r => r = B (clk x)) = (B (clk x) = B (clk x)) := by kernel_rfl
  rw [e])
def wmay (v c l : Int) : Bool := val8 v && (clk c && upto l 0 255)
def Ze9 : Spec := fun ds Q => match ds with | [.agg [.v (.int .i64 a), .v (.int .i64 b), .v (.int .i64 c)]] => Q (B (wmay a b c)) | _ => False
def sOdd : Spec := fun ds Q => match ds with | [.agg [.v (.int .i64 a), .v (.int .i64 b), .v (.int .i64 c)]] => Q (B (!wmay a b c)) | _ => False
theorem ZvY (a b c : Int) (K : DV → Prop) : (ask Tryz.prog [(115, sB val8), (102, sB clk), (150, sIn)] Tryz.f100 [.agg [vi a, vi b, vi c]] K) = (bif val8 a then bif clk b then K (DV.c (D.v (Value.bool (upto c (0) (255))))) else K (DV.c (D.v (Value.bool false))) else K (DV.c (D.v (Value.bool false)))) := by kernel_rfl
theorem ZuS (a b c : Int) (K : DV → Prop) : (ask Tryz.prog [(91, sB val8), (69, sB clk), (119, sUp)] Tryz.f118 [.agg [vi a, vi b, vi c]] K) = (bif val8 a then bif clk b then K (DV.c (D.v (Value.bool (upto c (0) (255))))) else K (DV.c (D.v (Value.bool false))) else K (DV.c (D.v (Value.bool false)))) := by kernel_rfl
theorem eOdd (a b c : Int) (K : DV → Prop) : (ask Tryz.prog [(100, Ze9)] Tryz.f99 [.agg [vi a, vi b, vi c]] K) = (K (DV.c (D.v (Value.bool !wmay a b c)))) := by kernel_rfl
theorem ZwJ : Zad Tryz.prog 100 Ze9 := o_of Tryz.func100 (by kernel_rfl) rfl fun ds Q h => by
  unfold Ze9 at h; split at h
  · refine ⟨_, Zak (.cons oVal (.cons oClk (.cons oIn .nil))) mixed Tryz.func100 rfl rfl rfl ?_, rfl, rfl, h⟩
    rw [ZvY]; simp only [bifK]; rfl
  · exact h.elim
theorem ZmI : Zad Tryz.prog 118 Ze9 := o_of Tryz.func118 (by kernel_rfl) rfl fun ds Q h => by
  unfold Ze9 at h; split at h
  · refine ⟨_, Zak (.cons ZgJ (.cons Zhf (.cons oUp .nil))) mixed Tryz.func118 rfl rfl rfl ?_, rfl, rfl, h⟩
    rw [ZuS]; simp only [bifK]; rfl
  · exact h.elim
theorem oOdd : Zad Tryz.prog 99 sOdd := o_of Tryz.func99 (by kernel_rfl) rfl fun ds Q h => by
  unfold sOdd at h; split at h
  · refine ⟨_, Zak (.cons ZwJ .nil) mixed Tryz.func99 rfl rfl rfl ?_, rfl, rfl, h⟩
    rw [eOdd]
  · exact h.elim
def ZbB (r : List Int) : Bool := wmay (r.getD 0 0) (r.getD 1 0) (r.getD 2 0)
def fx (l : List (List Int)) : Option Nat := l.findIdx? fun r => !ZbB r
def idxF (l : List (List Int)) : Int := match fx l with | some i => (i : Int) | none => -1
def stIx (R sp : List (List D)) (i v : Int) : X := ⟨mkT 19 [(0, aS 3 R sp), (1, .c (.d (.f 99 [] []))), (4, ai v), (7, ai R.length), (8, ai i)], [], [], []⟩
def vIx (R sp : List (List D)) (y : X) : X := stIx R sp (Zcn y 8) (Zcn y 4)
theorem eIxr (R sp : List (List D)) (i v : Int) (N : X → Prop) (E : Exit → X → Prop) : (ZaR band bor Tryz.prog [(99, sOdd)] [] Tryz.f151 0 [0, 1, 4, 7, 8] [] (vIx R sp) (vIx R sp) N E (stIx R sp i v)) = (bif decide (i < @Nat.cast Int _ (List.length R)) then bif decide (0 ≤ i) && decide (i < @Nat.cast Int _ (List.length R)) then bif isJ [IntKind.i64, IntKind.i64, IntKind.i64] (List.drop (0) (List.getD R (Int.toNat i) [])) then bif !wmay (hdJ (List.drop (0) (List.getD R (Int.toNat i) []))) (hdJ (List.tail (List.drop (0) (List.getD R (Int.toNat i) [])))) (hdJ (List.tail (List.tail (List.drop (0) (List.getD R (Int.toNat i) []))))) then stIx R sp i i = stIx R sp i i ∧ E Exit.ret (stIx R sp i i) else stIx R sp (IntKind.wrap IntKind.i64 (i + 1)) v = stIx R sp (IntKind.wrap IntKind.i64 (i + 1)) v ∧ N (stIx R sp (IntKind.wrap IntKind.i64 (i + 1)) v) else False else False else stIx R sp i v = stIx R sp i v ∧ E (Exit.exit (0)) (stIx R sp i v)) := by kernel_rfl
def ZsD (l : List (List Int)) (sp : List (List D)) : LSum := fun Q x => x.only [0, 1, 4, 7, 8] [] = stIx (mZ l) sp 0 0 ∧ (∀ i : Nat, fx l = some i → Q .ret (stIx (mZ l) sp i i)) ∧ (fx l = none → Q (.exit 0) (stIx (mZ l) sp l.length 0))
theorem eIx (l : List (List Int)) (sp : List (List D)) (K : DV → Prop) : (askL Tryz.prog [] [(2, ZsD l sp)] Tryz.f151 [dS 3 (mZ l) sp, .c (.f 99 [] [])] K) = (stIx (mZ l) sp (0) (0) = stIx (mZ l) sp (0) (0) ∧ (∀ (i : Nat), fx l = some i → K (DV.c (D.v (Value.int IntKind.i64 (@Nat.cast Int _ i))))) ∧ (fx l = none → K (DV.c (D.v (Value.int IntKind.i64 (-1)))))) := by kernel_rfl
theorem Zvy {l : List (List Int)} {sp : List (List D)} (hw : wid 3 l) (hn : l.length ≤ 9223372036854775807) (Q : Exit → X → Prop) (x : X) (h : ZsD l sp Q x) : XWP Tryz.prog (.loop (Zar Tryz.f151 0)) Q x := by
  obtain ⟨h1, h2, h3⟩ := h
  refine ZaB (ι := Nat) (H := hkA band bor [(99, sOdd)] []) (fn := Tryz.f151) (i := 0) (ts := [0, 1, 4, 7, 8]) (ks := []) (ZaL (.cons oOdd .nil)) mixed (Zai rfl)
    (fun i => stIx (mZ l) sp i 0) (fun i => i ≤ l.length ∧ ∀ j, j < i → ZbB (l.getD j []) = true) (fun i => l.length - i) 0 (vIx (mZ l) sp) (vIx (mZ l) sp) (fun i hp => ?_) ⟨Nat.zero_le _, fun j hj => by omega⟩ h1
  obtain ⟨hi, hj⟩ := hp
  show ZaR band bor Tryz.prog _ _ Tryz.f151 0 _ _ _ _ _ _ _
  rw [eIxr]
  by_cases hl : i < l.length
  · have wi : IntKind.wrap .i64 ((i : Int) + 1) = ((i + 1 : Nat) : Int) := Zan (n := 1) (by omega)
    have hj1 : isJ [IntKind.i64, IntKind.i64, IntKind.i64] ((mZ l).getD i []) = true := Zav (j := 0) (n := 3) hw hl (by omega)
    simp only [Zaf, Int.ofNat_lt, hl, decide_true, cond_true, Int.natCast_nonneg, Bool.and_self, Int.toNat_natCast, ZaM, ZaO, hj1, List.drop_zero, ZaJ, true_and, wi]
    have e : ZbB (l.getD i []) = wmay ((l.getD i []).getD 0 0) ((l.getD i []).getD 1 0) ((l.getD i []).getD 2 0) := rfl
    rw [← e]
    cases ho : ZbB (l.getD i []) with
    | false =>
      refine h2 i ?_
      rw [fx, List.findIdx?_eq_some_iff_getElem]
      refine ⟨hl, ?_, fun j hji => ?_⟩
      · have : l.getD i [] = l[i] := by simp [List.getD_eq_getElem?_getD, hl]
        rw [this] at ho; simp [ho]
      · have := hj j hji
        have hjl : j < l.length := by omega
        have e2 : l.getD j [] = l[j] := by simp [List.getD_eq_getElem?_getD, hjl]
        rw [e2] at this; simp [this]
    | true =>
      refine ⟨i + 1, by omega, ⟨hl, fun j hji => ?_⟩, rfl⟩
      rcases Nat.lt_succ_iff_lt_or_eq.1 hji with hji | rfl
      · exact hj j hji
      · exact ho
  · have e : i = l.length := by omega
    subst e
    simp only [Zaf, Int.ofNat_lt, Nat.lt_irrefl, decide_false, cond_false, true_and]
    refine h3 ?_
    rw [fx, List.findIdx?_eq_none_iff]
    intro x hx
    obtain ⟨j, hj', rfl⟩ := List.mem_iff_getElem.1 hx
    have := hj j hj'
    have e2 : l.getD j [] = l[j] := by simp [List.getD_eq_getElem?_getD, hj']
    rw [e2] at this; simp [this]
def sIx : Spec := fun ds Q => match ds with | [.c (.s 0 3 R sp), .c (.f 99 [] [])] => cond (okZ 3 R) (Q (I (idxF (toZ R)))) False | _ => False
theorem oIx : Zad Tryz.prog 151 sIx := o_of Tryz.func151 (by kernel_rfl) rfl fun ds Q h => by
  unfold sIx at h; split at h
  · rename_i R sp
    obtain ⟨h1, h2⟩ := Zag h
    obtain ⟨e1, w1, n1⟩ := Zah h1
    rw [e1]
    rw [← Zal R] at n1
    generalize toZ R = l at *
    refine ⟨_, ZaC (l := []) (m := [(2, ZsD l sp)]) .nil mixed (Za7 rfl (by kernel_rfl) (Zvy w1 n1)) Tryz.func151 rfl rfl rfl ?_, rfl, rfl, h2⟩
    rw [eIx]
    refine ⟨rfl, fun i hi => ?_, fun hn => ?_⟩
    · simp [idxF, hi]
    · simp [idxF, hn]
  · exact h.elim
def badW (l : List (List Int)) : Bool := l.any fun r => !ZbB r
theorem ZsN (l : List (List Int)) : decide (idxF l ≥ 0) = badW l := by
  unfold idxF
  cases h : fx l with
  | some i =>
    have : badW l = true := by
      rw [fx, List.findIdx?_eq_some_iff_getElem] at h
      obtain ⟨h1, h2, _⟩ := h
      exact List.any_eq_true.2 ⟨_, List.getElem_mem h1, h2⟩
    rw [this]; simp
  | none =>
    have : badW l = false := by
      rw [fx, List.findIdx?_eq_none_iff] at h
      unfold badW
      rw [List.any_eq_false]; intro x hx; simpa using h x hx
    rw [this]; rfl
theorem eCon (R sp : List (List D)) (K : DV → Prop) : (ask Tryz.prog [(151, sIx)] Tryz.f101 [dS 3 R sp, .c (.f 99 [] [])] K) = (bif okZ (3) R then K (DV.c (D.v (Value.bool (decide (idxF (toZ R) ≥ 0))))) else False) := by kernel_rfl
def sCon : Spec := fun ds Q => match ds with | [.c (.s 0 3 R sp), .c (.f 99 [] [])] => cond (okZ 3 R) (Q (B (badW (toZ R)))) False | _ => False
theorem oCon : Zad Tryz.prog 101 sCon := o_of Tryz.func101 (by kernel_rfl) rfl fun ds Q h => by
  unfold sCon at h; split at h
  · obtain ⟨h1, h2⟩ := Zag h
    refine ⟨_, Zak (.cons oIx .nil) mixed Tryz.func101 rfl rfl rfl ?_, rfl, rfl, h2⟩
    rw [eCon, h1, ZsN]; rfl
  · exact h.elim
abbrev dA (R0 p0 R1 p1 R2 p2 R3 p3 : List (List D)) : DV := .agg [.s 0 3 R0 p0, .s 0 3 R1 p1, .s 0 3 R2 p2, .s 0 3 R3 p3]
def ZaN (l : List (List Int)) : Bool := !(decide (l.length > 4) || badW l)
def amay (a b c d : List (List Int)) : Bool := ZaN a && (ZaN b && (ZaN c && ZaN d))
theorem Zv9 (R0 p0 R1 p1 R2 p2 R3 p3 : List (List D)) (K : DV → Prop) : (ask Tryz.prog [(101, sCon)] Tryz.f60 [dA R0 p0 R1 p1 R2 p2 R3 p3] K) = (bif decide (@Nat.cast Int _ (List.length R0) > 4) then K (DV.c (D.v (Value.bool false))) else bif okZ (3) R0 then bif badW (toZ R0) then K (DV.c (D.v (Value.bool false))) else bif decide (@Nat.cast Int _ (List.length R1) > 4) then K (DV.c (D.v (Value.bool false))) else bif okZ (3) R1 then bif badW (toZ R1) then K (DV.c (D.v (Value.bool false))) else bif decide (@Nat.cast Int _ (List.length R2) > 4) then K (DV.c (D.v (Value.bool false))) else bif okZ (3) R2 then bif badW (toZ R2) then K (DV.c (D.v (Value.bool false))) else bif decide (@Nat.cast Int _ (List.length R3) > 4) then K (DV.c (D.v (Value.bool false))) else bif okZ (3) R3 then bif badW (toZ R3) then K (DV.c (D.v (Value.bool false))) else K (DV.c (D.v (Value.bool true))) else False else False else False else False) := by kernel_rfl
end

section
open Go Go.Proofs
abbrev pA (R0 p0 R1 p1 R2 p2 R3 p3 : List (List D)) : DV := .c (.p 0 [.s 0 3 R0 p0, .s 0 3 R1 p1, .s 0 3 R2 p2, .s 0 3 R3 p3] 0)
def okA (R0 R1 R2 R3 : List (List D)) : Bool := okZ 3 R0 && (okZ 3 R1 && (okZ 3 R2 && okZ 3 R3))
theorem Zb2 {R0 R1 R2 R3 : List (List D)} (h : okA R0 R1 R2 R3 = true) : okZ 3 R0 = true ∧ okZ 3 R1 = true ∧ okZ 3 R2 = true ∧ okZ 3 R3 = true := by simpa [okA, Bool.and_eq_true] using h
def ZcP : Spec := fun ds Q => match ds with | [.agg [.s 0 3 R0 p0, .s 0 3 R1 p1, .s 0 3 R2 p2, .s 0 3 R3 p3]] => cond (okA R0 R1 R2 R3) (Q (B (amay (toZ R0) (toZ R1) (toZ R2) (toZ R3)))) False | _ => False
theorem ZnZ (R : List (List D)) : ZaN (toZ R) = (!decide ((R.length : Int) > 4) && !badW (toZ R)) := by
  unfold ZaN
  rw [Zal]
  have : decide ((R.length : Int) > 4) = decide (R.length > 4) := by congr 1; exact propext ⟨fun h => by omega, fun h => by omega⟩
  rw [this]; cases decide (R.length > 4) <;> rfl
theorem ZnI : Zad Tryz.prog 60 ZcP := o_of Tryz.func60 (by kernel_rfl) rfl fun ds Q h => by
  unfold ZcP at h; split at h
  · rename_i R0 p0 R1 p1 R2 p2 R3 p3
    obtain ⟨h1, h2⟩ := Zag h
    obtain ⟨a0, a1, a2, a3⟩ := Zb2 h1
    refine ⟨_, Zak (.cons oCon .nil) mixed Tryz.func60 rfl rfl rfl ?_, rfl, rfl, h2⟩
    rw [Zv9]
    simp only [a0, a1, a2, a3, cond_true, amay, ZnZ]
    cases decide ((R0.length : Int) > 4) <;> cases badW (toZ R0) <;> cases decide ((R1.length : Int) > 4) <;> cases badW (toZ R1) <;> cases decide ((R2.length : Int) > 4) <;> cases badW (toZ R2) <;> cases decide ((R3.length : Int) > 4) <;> cases badW (toZ R3) <;> rfl
  · exact h.elim
def stAM (R0 p0 R1 p1 R2 p2 R3 p3 : List (List D)) (g i : Int) (p : Bool) : X := ⟨mkT 29 [(1, .c (.rp 2 0 4 0 0)), (2, ab p), (3, ai g), (4, ai i)], [(2, .bx 0 4 [.d (.s 0 3 R0 p0), .d (.s 0 3 R1 p1), .d (.s 0 3 R2 p2), .d (.s 0 3 R3 p3)])], [], []⟩
def vAM (R0 p0 R1 p1 R2 p2 R3 p3 : List (List D)) (g : Int) (y : X) : X := stAM R0 p0 R1 p1 R2 p2 R3 p3 g (Zcn y 4) (ZjQ y 2)
theorem eThr (R0 p0 R1 p1 R2 p2 R3 p3 : List (List D)) (lv num : Int) (K : DV → Prop) : (ask Tryz.prog [(64, sB lab)] Tryz.f157 [pA R0 p0 R1 p1 R2 p2 R3 p3, I lv, I num] K) = (bif lab lv then bif decide (num ≥ 0) then bif decide (lv = 0) then K (DV.c (D.v (Value.bool (decide (num < @Nat.cast Int _ (List.length R0)))))) else bif decide (lv = 1) then K (DV.c (D.v (Value.bool (decide (num < @Nat.cast Int _ (List.length R1)))))) else bif decide (lv = 2) then K (DV.c (D.v (Value.bool (decide (num < @Nat.cast Int _ (List.length R2)))))) else bif decide (lv = 3) then K (DV.c (D.v (Value.bool (decide (num < @Nat.cast Int _ (List.length R3)))))) else False else K (DV.c (D.v (Value.bool false))) else K (DV.c (D.v (Value.bool false)))) := by kernel_rfl
theorem Zv5 (R0 p0 R1 p1 R2 p2 R3 p3 : List (List D)) (lv num : Int) (K : DV → Prop) : (ask Tryz.prog [(71, sB lab)] Tryz.f164 [dA R0 p0 R1 p1 R2 p2 R3 p3, I lv, I num] K) = (bif lab lv then bif decide (num ≥ 0) then bif decide (lv = 0) then K (DV.c (D.v (Value.bool (decide (num < @Nat.cast Int _ (List.length R0)))))) else bif decide (lv = 1) then K (DV.c (D.v (Value.bool (decide (num < @Nat.cast Int _ (List.length R1)))))) else bif decide (lv = 2) then K (DV.c (D.v (Value.bool (decide (num < @Nat.cast Int _ (List.length R2)))))) else bif decide (lv = 3) then K (DV.c (D.v (Value.bool (decide (num < @Nat.cast Int _ (List.length R3)))))) else False else K (DV.c (D.v (Value.bool false))) else K (DV.c (D.v (Value.bool false)))) := by kernel_rfl
theorem Zwa (R0 p0 R1 p1 R2 p2 R3 p3 : List (List D)) (i : Int) (p : Bool) (N : X → Prop) (E : Exit → X → Prop) : (ZaR band bor Tryz.prog [(118, Ze9)] [] Tryz.f68 1 [1, 2, 3, 4] [2] (vAM R0 p0 R1 p1 R2 p2 R3 p3 0) (vAM R0 p0 R1 p1 R2 p2 R3 p3 0) N E (stAM R0 p0 R1 p1 R2 p2 R3 p3 0 i p)) = (bif decide (i < @Nat.cast Int _ (List.length R0)) then bif decide (i ≥ 4) then stAM R0 p0 R1 p1 R2 p2 R3 p3 (0) i false = stAM R0 p0 R1 p1 R2 p2 R3 p3 (0) i false ∧ E Exit.ret (stAM R0 p0 R1 p1 R2 p2 R3 p3 (0) i false) else bif decide (0 ≤ i) && decide (i < @Nat.cast Int _ (List.length R0)) then bif isJ [IntKind.i64, IntKind.i64, IntKind.i64] (List.drop (0) (List.getD R0 (Int.toNat i) [])) then bif !wmay (hdJ (List.drop (0) (List.getD R0 (Int.toNat i) []))) (hdJ (List.tail (List.drop (0) (List.getD R0 (Int.toNat i) [])))) (hdJ (List.tail (List.tail (List.drop (0) (List.getD R0 (Int.toNat i) []))))) then stAM R0 p0 R1 p1 R2 p2 R3 p3 (0) i false = stAM R0 p0 R1 p1 R2 p2 R3 p3 (0) i false ∧ E Exit.ret (stAM R0 p0 R1 p1 R2 p2 R3 p3 (0) i false) else stAM R0 p0 R1 p1 R2 p2 R3 p3 (0) (IntKind.wrap IntKind.i64 (i + 1)) p = stAM R0 p0 R1 p1 R2 p2 R3 p3 (0) (IntKind.wrap IntKind.i64 (i + 1)) p ∧ N (stAM R0 p0 R1 p1 R2 p2 R3 p3 (0) (IntKind.wrap IntKind.i64 (i + 1)) p) else False else False else stAM R0 p0 R1 p1 R2 p2 R3 p3 (0) i p = stAM R0 p0 R1 p1 R2 p2 R3 p3 (0) i p ∧ E (Exit.exit (2)) (stAM R0 p0 R1 p1 R2 p2 R3 p3 (0) i p)) := by kernel_rfl
theorem Zw8 (R0 p0 R1 p1 R2 p2 R3 p3 : List (List D)) (i : Int) (p : Bool) (N : X → Prop) (E : Exit → X → Prop) : (ZaR band bor Tryz.prog [(118, Ze9)] [] Tryz.f68 1 [1, 2, 3, 4] [2] (vAM R0 p0 R1 p1 R2 p2 R3 p3 1) (vAM R0 p0 R1 p1 R2 p2 R3 p3 1) N E (stAM R0 p0 R1 p1 R2 p2 R3 p3 1 i p)) = (bif decide (i < @Nat.cast Int _ (List.length R1)) then bif decide (i ≥ 4) then stAM R0 p0 R1 p1 R2 p2 R3 p3 (1) i false = stAM R0 p0 R1 p1 R2 p2 R3 p3 (1) i false ∧ E Exit.ret (stAM R0 p0 R1 p1 R2 p2 R3 p3 (1) i false) else bif decide (0 ≤ i) && decide (i < @Nat.cast Int _ (List.length R1)) then bif isJ [IntKind.i64, IntKind.i64, IntKind.i64] (List.drop (0) (List.getD R1 (Int.toNat i) [])) then bif !wmay (hdJ (List.drop (0) (List.getD R1 (Int.toNat i) []))) (hdJ (List.tail (List.drop (0) (List.getD R1 (Int.toNat i) [])))) (hdJ (List.tail (List.tail (List.drop (0) (List.getD R1 (Int.toNat i) []))))) then stAM R0 p0 R1 p1 R2 p2 R3 p3 (1) i false = stAM R0 p0 R1 p1 R2 p2 R3 p3 (1) i false ∧ E Exit.ret (stAM R0 p0 R1 p1 R2 p2 R3 p3 (1) i false) else stAM R0 p0 R1 p1 R2 p2 R3 p3 (1) (IntKind.wrap IntKind.i64 (i + 1)) p = stAM R0 p0 R1 p1 R2 p2 R3 p3 (1) (IntKind.wrap IntKind.i64 (i + 1)) p ∧ N (stAM R0 p0 R1 p1 R2 p2 R3 p3 (1) (IntKind.wrap IntKind.i64 (i + 1)) p) else False else False else stAM R0 p0 R1 p1 R2 p2 R3 p3 (1) i p = stAM R0 p0 R1 p1 R2 p2 R3 p3 (1) i p ∧ E (Exit.exit (2)) (stAM R0 p0 R1 p1 R2 p2 R3 p3 (1) i p)) := by kernel_rfl
theorem Zwe (R0 p0 R1 p1 R2 p2 R3 p3 : List (List D)) (i : Int) (p : Bool) (N : X → Prop) (E : Exit → X → Prop) : (ZaR band bor Tryz.prog [(118, Ze9)] [] Tryz.f68 1 [1, 2, 3, 4] [2] (vAM R0 p0 R1 p1 R2 p2 R3 p3 2) (vAM R0 p0 R1 p1 R2 p2 R3 p3 2) N E (stAM R0 p0 R1 p1 R2 p2 R3 p3 2 i p)) = (bif decide (i < @Nat.cast Int _ (List.length R2)) then bif decide (i ≥ 4) then stAM R0 p0 R1 p1 R2 p2 R3 p3 (2) i false = stAM R0 p0 R1 p1 R2 p2 R3 p3 (2) i false ∧ E Exit.ret (stAM R0 p0 R1 p1 R2 p2 R3 p3 (2) i false) else bif decide (0 ≤ i) && decide (i < @Nat.cast Int _ (List.length R2)) then bif isJ [IntKind.i64, IntKind.i64, IntKind.i64] (List.drop (0) (List.getD R2 (Int.toNat i) [])) then bif !wmay (hdJ (List.drop (0) (List.getD R2 (Int.toNat i) []))) (hdJ (List.tail (List.drop (0) (List.getD R2 (Int.toNat i) [])))) (hdJ (List.tail (List.tail (List.drop (0) (List.getD R2 (Int.toNat i) []))))) then stAM R0 p0 R1 p1 R2 p2 R3 p3 (2) i false = stAM R0 p0 R1 p1 R2 p2 R3 p3 (2) i false ∧ E Exit.ret (stAM R0 p0 R1 p1 R2 p2 R3 p3 (2) i false) else stAM R0 p0 R1 p1 R2 p2 R3 p3 (2) (IntKind.wrap IntKind.i64 (i + 1)) p = stAM R0 p0 R1 p1 R2 p2 R3 p3 (2) (IntKind.wrap IntKind.i64 (i + 1)) p ∧ N (stAM R0 p0 R1 p1 R2 p2 R3 p3 (2) (IntKind.wrap IntKind.i64 (i + 1)) p) else False else False else stAM R0 p0 R1 p1 R2 p2 R3 p3 (2) i p = stAM R0 p0 R1 p1 R2 p2 R3 p3 (2) i p ∧ E (Exit.exit (2)) (stAM R0 p0 R1 p1 R2 p2 R3 p3 (2) i p)) := by kernel_rfl
theorem Zvu (R0 p0 R1 p1 R2 p2 R3 p3 : List (List D)) (i : Int) (p : Bool) (N : X → Prop) (E : Exit → X → Prop) : (ZaR band bor Tryz.prog [(118, Ze9)] [] Tryz.f68 1 [1, 2, 3, 4] [2] (vAM R0 p0 R1 p1 R2 p2 R3 p3 3) (vAM R0 p0 R1 p1 R2 p2 R3 p3 3) N E (stAM R0 p0 R1 p1 R2 p2 R3 p3 3 i p)) = (bif decide (i < @Nat.cast Int _ (List.length R3)) then bif decide (i ≥ 4) then stAM R0 p0 R1 p1 R2 p2 R3 p3 (3) i false = stAM R0 p0 R1 p1 R2 p2 R3 p3 (3) i false ∧ E Exit.ret (stAM R0 p0 R1 p1 R2 p2 R3 p3 (3) i false) else bif decide (0 ≤ i) && decide (i < @Nat.cast Int _ (List.length R3)) then bif isJ [IntKind.i64, IntKind.i64, IntKind.i64] (List.drop (0) (List.getD R3 (Int.toNat i) [])) then bif !wmay (hdJ (List.drop (0) (List.getD R3 (Int.toNat i) []))) (hdJ (List.tail (List.drop (0) (List.getD R3 (Int.toNat i) [])))) (hdJ (List.tail (List.tail (List.drop (0) (List.getD R3 (Int.toNat i) []))))) then stAM R0 p0 R1 p1 R2 p2 R3 p3 (3) i false = stAM R0 p0 R1 p1 R2 p2 R3 p3 (3) i false ∧ E Exit.ret (stAM R0 p0 R1 p1 R2 p2 R3 p3 (3) i false) else stAM R0 p0 R1 p1 R2 p2 R3 p3 (3) (IntKind.wrap IntKind.i64 (i + 1)) p = stAM R0 p0 R1 p1 R2 p2 R3 p3 (3) (IntKind.wrap IntKind.i64 (i + 1)) p ∧ N (stAM R0 p0 R1 p1 R2 p2 R3 p3 (3) (IntKind.wrap IntKind.i64 (i + 1)) p) else False else False else stAM R0 p0 R1 p1 R2 p2 R3 p3 (3) i p = stAM R0 p0 R1 p1 R2 p2 R3 p3 (3) i p ∧ E (Exit.exit (2)) (stAM R0 p0 R1 p1 R2 p2 R3 p3 (3) i p)) := by kernel_rfl
def sAMg (st : Int → Bool → X) (l : List (List Int)) : LSum := fun Q x => x.only [1, 2, 3, 4] [2] = st 0 false ∧ (ZaN l = false → ∀ i : Int, Q .ret (st i false)) ∧ (ZaN l = true → Q (.exit 2) (st l.length false))
def Zsg (R0 p0 R1 p1 R2 p2 R3 p3 : List (List D)) : LSum := fun Q x => Zqn x 3 fun g =>
  cond (decide (g = 0)) (sAMg (stAM R0 p0 R1 p1 R2 p2 R3 p3 0) (toZ R0) Q x) (cond (decide (g = 1)) (sAMg (stAM R0 p0 R1 p1 R2 p2 R3 p3 1) (toZ R1) Q x) (cond (decide (g = 2)) (sAMg (stAM R0 p0 R1 p1 R2 p2 R3 p3 2) (toZ R2) Q x) (sAMg (stAM R0 p0 R1 p1 R2 p2 R3 p3 3) (toZ R3) Q x)))
theorem Zun (R0 p0 R1 p1 R2 p2 R3 p3 : List (List D)) (K : DV → Prop) : (askL Tryz.prog [] [(5, Zsg R0 p0 R1 p1 R2 p2 R3 p3)] Tryz.f68 [dA R0 p0 R1 p1 R2 p2 R3 p3] K) = (stAM R0 p0 R1 p1 R2 p2 R3 p3 (0) (0) false = stAM R0 p0 R1 p1 R2 p2 R3 p3 (0) (0) false ∧ (ZaN (toZ R0) = false → ∀ (i : Int), K (DV.c (D.v (Value.bool false)))) ∧ (ZaN (toZ R0) = true → stAM R0 p0 R1 p1 R2 p2 R3 p3 (1) (0) false = stAM R0 p0 R1 p1 R2 p2 R3 p3 (1) (0) false ∧ (ZaN (toZ R1) = false → ∀ (i : Int), K (DV.c (D.v (Value.bool false)))) ∧ (ZaN (toZ R1) = true → stAM R0 p0 R1 p1 R2 p2 R3 p3 (2) (0) false = stAM R0 p0 R1 p1 R2 p2 R3 p3 (2) (0) false ∧ (ZaN (toZ R2) = false → ∀ (i : Int), K (DV.c (D.v (Value.bool false)))) ∧ (ZaN (toZ R2) = true → stAM R0 p0 R1 p1 R2 p2 R3 p3 (3) (0) false = stAM R0 p0 R1 p1 R2 p2 R3 p3 (3) (0) false ∧ (ZaN (toZ R3) = false → ∀ (i : Int), K (DV.c (D.v (Value.bool false)))) ∧ (ZaN (toZ R3) = true → K (DV.c (D.v (Value.bool true)))))))) := by kernel_rfl
theorem Zbf {l : List (List Int)} {i : Nat} (hi : i < l.length) (h : ZbB (l.getD i []) = false) : ZaN l = false := by
  have e : l.getD i [] = l[i] := by simp [List.getD_eq_getElem?_getD, hi]
  rw [e] at h
  have : badW l = true := List.any_eq_true.2 ⟨_, List.getElem_mem hi, by simp [h]⟩
  simp [ZaN, this]
theorem Zbr {l : List (List Int)} (h : 4 < l.length) : ZaN l = false := by simp [ZaN, h]
theorem ZbH {l : List (List Int)} (h : l.length ≤ 4) (ha : ∀ j, j < l.length → ZbB (l.getD j []) = true) : ZaN l = true := by
  have : badW l = false := by
    unfold badW
    rw [List.any_eq_false]
    intro x hx
    obtain ⟨j, hj', rfl⟩ := List.mem_iff_getElem.1 hx
    have := ha j hj'
    have e2 : l.getD j [] = l[j] := by simp [List.getD_eq_getElem?_getD, hj']
    rw [e2] at this; simp [this]
  have h4 : ¬ l.length > 4 := by omega
  simp [ZaN, this, h4]
theorem ZrM {P : Program} {l : List (FuncId × Spec)} {fn : Func} {k : Nat} {s : LSum} (hn : (Zbc (Zao fn)).length = 2) (hk0 : (hkl l [(k, s)]).loop (ZbK (Zar fn 0)) = none) (hk : ZbK (Zar fn 1) = k) (h : ∀ Q x, s Q x → XWP P (.loop (Zar fn 1)) Q x) : Zaz P (hkl l [(k, s)]) (Zao fn) :=
  Zds 2 hn fun i hi s' hs Q x hq => by
    match i, hi with
    | 0, _ => rw [hk0] at hs; cases hs
    | 1, _ =>
      rw [hk] at hs
      have hs' : some s = some s' := by simpa [Zdw, hkl, hkA, Zbn] using hs
      cases hs'
      exact h Q x hq
theorem Zuy {l : List (List Int)} {sp R1 p1 R2 p2 R3 p3 : List (List D)} (hw : wid 3 l) (hn : l.length ≤ 9223372036854775807) (Q : Exit → X → Prop) (x : X) (h : sAMg (stAM (mZ l) sp R1 p1 R2 p2 R3 p3 0) l Q x) : XWP Tryz.prog (.loop (Zar Tryz.f68 1)) Q x := by
  obtain ⟨h1, h2, h3⟩ := h
  refine ZaB (ι := Nat) (H := hkA band bor [(118, Ze9)] []) (fn := Tryz.f68) (i := 1) (ts := [1, 2, 3, 4]) (ks := [2]) (ZaL (.cons ZmI .nil)) mixed (Zai rfl)
    (fun i => stAM (mZ l) sp R1 p1 R2 p2 R3 p3 0 i false) (fun i => i ≤ l.length ∧ i ≤ 4 ∧ ∀ j, j < i → ZbB (l.getD j []) = true) (fun i => l.length - i) 0 (vAM (mZ l) sp R1 p1 R2 p2 R3 p3 0) (vAM (mZ l) sp R1 p1 R2 p2 R3 p3 0) (fun i hp => ?_) ⟨Nat.zero_le _, Nat.zero_le _, fun j hj => by omega⟩ h1
  obtain ⟨hi, h4, hj⟩ := hp
  show ZaR band bor Tryz.prog _ _ Tryz.f68 1 _ _ _ _ _ _ _
  rw [Zwa]
  by_cases hl : i < l.length
  · by_cases h4' : i = 4
    · have e4 : decide ((i : Int) ≥ 4) = true := by simp; omega
      simp only [Zaf, Int.ofNat_lt, hl, decide_true, cond_true, e4, true_and]
      exact h2 (Zbr (by omega)) _
    · have e4 : decide ((i : Int) ≥ 4) = false := by simp; omega
      have wi : IntKind.wrap .i64 ((i : Int) + 1) = ((i + 1 : Nat) : Int) := Zan (n := 1) (by omega)
      have hj1 : isJ [IntKind.i64, IntKind.i64, IntKind.i64] ((mZ l).getD i []) = true := Zav (j := 0) (n := 3) hw hl (by omega)
      simp only [Zaf, Int.ofNat_lt, hl, decide_true, cond_true, cond_false, e4, Int.natCast_nonneg, Bool.and_self, Int.toNat_natCast, ZaM, ZaO, hj1, List.drop_zero, ZaJ, true_and, wi]
      have e : ZbB (l.getD i []) = wmay ((l.getD i []).getD 0 0) ((l.getD i []).getD 1 0) ((l.getD i []).getD 2 0) := rfl
      rw [← e]
      cases ho : ZbB (l.getD i []) with
      | false => exact h2 (Zbf hl ho) _
      | true =>
        refine ⟨i + 1, by omega, ⟨hl, by omega, fun j hji => ?_⟩, rfl⟩
        rcases Nat.lt_succ_iff_lt_or_eq.1 hji with hji | rfl
        · exact hj j hji
        · exact ho
  · have e : i = l.length := by omega
    subst e
    simp only [Zaf, Int.ofNat_lt, Nat.lt_irrefl, decide_false, cond_false, true_and]
    exact h3 (ZbH h4 hj)
theorem Zvl {l : List (List Int)} {sp R0 p0 R2 p2 R3 p3 : List (List D)} (hw : wid 3 l) (hn : l.length ≤ 9223372036854775807) (Q : Exit → X → Prop) (x : X) (h : sAMg (stAM R0 p0 (mZ l) sp R2 p2 R3 p3 1) l Q x) : XWP Tryz.prog (.loop (Zar Tryz.f68 1)) Q x := by
  obtain ⟨h1, h2, h3⟩ := h
  refine ZaB (ι := Nat) (H := hkA band bor [(118, Ze9)] []) (fn := Tryz.f68) (i := 1) (ts := [1, 2, 3, 4]) (ks := [2]) (ZaL (.cons ZmI .nil)) mixed (Zai rfl)
    (fun i => stAM R0 p0 (mZ l) sp R2 p2 R3 p3 1 i false) (fun i => i ≤ l.length ∧ i ≤ 4 ∧ ∀ j, j < i → ZbB (l.getD j []) = true) (fun i => l.length - i) 0 (vAM R0 p0 (mZ l) sp R2 p2 R3 p3 1) (vAM R0 p0 (mZ l) sp R2 p2 R3 p3 1) (fun i hp => ?_) ⟨Nat.zero_le _, Nat.zero_le _, fun j hj => by omega⟩ h1
  obtain ⟨hi, h4, hj⟩ := hp
  show ZaR band bor Tryz.prog _ _ Tryz.f68 1 _ _ _ _ _ _ _
  rw [Zw8]
  by_cases hl : i < l.length
  · by_cases h4' : i = 4
    · have e4 : decide ((i : Int) ≥ 4) = true := by simp; omega
      simp only [Zaf, Int.ofNat_lt, hl, decide_true, cond_true, e4, true_and]
      exact h2 (Zbr (by omega)) _
    · have e4 : decide ((i : Int) ≥ 4) = false := by simp; omega
      have wi : IntKind.wrap .i64 ((i : Int) + 1) = ((i + 1 : Nat) : Int) := Zan (n := 1) (by omega)
      have hj1 : isJ [IntKind.i64, IntKind.i64, IntKind.i64] ((mZ l).getD i []) = true := Zav (j := 0) (n := 3) hw hl (by omega)
      simp only [Zaf, Int.ofNat_lt, hl, decide_true, cond_true, cond_false, e4, Int.natCast_nonneg, Bool.and_self, Int.toNat_natCast, ZaM, ZaO, hj1, List.drop_zero, ZaJ, true_and, wi]
      have e : ZbB (l.getD i []) = wmay ((l.getD i []).getD 0 0) ((l.getD i []).getD 1 0) ((l.getD i []).getD 2 0) := rfl
      rw [← e]
      cases ho : ZbB (l.getD i []) with
      | false => exact h2 (Zbf hl ho) _
      | true =>
        refine ⟨i + 1, by omega, ⟨hl, by omega, fun j hji => ?_⟩, rfl⟩
        rcases Nat.lt_succ_iff_lt_or_eq.1 hji with hji | rfl
        · exact hj j hji
        · exact ho
  · have e : i = l.length := by omega
    subst e
    simp only [Zaf, Int.ofNat_lt, Nat.lt_irrefl, decide_false, cond_false, true_and]
    exact h3 (ZbH h4 hj)
theorem ZuP {l : List (List Int)} {sp R0 p0 R1 p1 R3 p3 : List (List D)} (hw : wid 3 l) (hn : l.length ≤ 9223372036854775807) (Q : Exit → X → Prop) (x : X) (h : sAMg (stAM R0 p0 R1 p1 (mZ l) sp R3 p3 2) l Q x) : XWP Tryz.prog (.loop (Zar Tryz.f68 1)) Q x := by
  obtain ⟨h1, h2, h3⟩ := h
  refine ZaB (ι := Nat) (H := hkA band bor [(118, Ze9)] []) (fn := Tryz.f68) (i := 1) (ts := [1, 2, 3, 4]) (ks := [2]) (ZaL (.cons ZmI .nil)) mixed (Zai rfl)
    (fun i => stAM R0 p0 R1 p1 (mZ l) sp R3 p3 2 i false) (fun i => i ≤ l.length ∧ i ≤ 4 ∧ ∀ j, j < i → ZbB (l.getD j []) = true) (fun i => l.length - i) 0 (vAM R0 p0 R1 p1 (mZ l) sp R3 p3 2) (vAM R0 p0 R1 p1 (mZ l) sp R3 p3 2) (fun i hp => ?_) ⟨Nat.zero_le _, Nat.zero_le _, fun j hj => by omega⟩ h1
  obtain ⟨hi, h4, hj⟩ := hp
  show ZaR band bor Tryz.prog _ _ Tryz.f68 1 _ _ _ _ _ _ _
  rw [Zwe]
  by_cases hl : i < l.length
  · by_cases h4' : i = 4
    · have e4 : decide ((i : Int) ≥ 4) = true := by simp; omega
      simp only [Zaf, Int.ofNat_lt, hl, decide_true, cond_true, e4, true_and]
      exact h2 (Zbr (by omega)) _
    · have e4 : decide ((i : Int) ≥ 4) = false := by simp; omega
      have wi : IntKind.wrap .i64 ((i : Int) + 1) = ((i + 1 : Nat) : Int) := Zan (n := 1) (by omega)
      have hj1 : isJ [IntKind.i64, IntKind.i64, IntKind.i64] ((mZ l).getD i []) = true := Zav (j := 0) (n := 3) hw hl (by omega)
      simp only [Zaf, Int.ofNat_lt, hl, decide_true, cond_true, cond_false, e4, Int.natCast_nonneg, Bool.and_self, Int.toNat_natCast, ZaM, ZaO, hj1, List.drop_zero, ZaJ, true_and, wi]
      have e : ZbB (l.getD i []) = wmay ((l.getD i []).getD 0 0) ((l.getD i []).getD 1 0) ((l.getD i []).getD 2 0) := rfl
      rw [← e]
      cases ho : ZbB (l.getD i []) with
      | false => exact h2 (Zbf hl ho) _
      | true =>
        refine ⟨i + 1, by omega, ⟨hl, by omega, fun j hji => ?_⟩, rfl⟩
        rcases Nat.lt_succ_iff_lt_or_eq.1 hji with hji | rfl
        · exact hj j hji
        · exact ho
  · have e : i = l.length := by omega
    subst e
    simp only [Zaf, Int.ofNat_lt, Nat.lt_irrefl, decide_false, cond_false, true_and]
    exact h3 (ZbH h4 hj)
theorem Zu7 {l : List (List Int)} {sp R0 p0 R1 p1 R2 p2 : List (List D)} (hw : wid 3 l) (hn : l.length ≤ 9223372036854775807) (Q : Exit → X → Prop) (x : X) (h : sAMg (stAM R0 p0 R1 p1 R2 p2 (mZ l) sp 3) l Q x) : XWP Tryz.prog (.loop (Zar Tryz.f68 1)) Q x := by
  obtain ⟨h1, h2, h3⟩ := h
  refine ZaB (ι := Nat) (H := hkA band bor [(118, Ze9)] []) (fn := Tryz.f68) (i := 1) (ts := [1, 2, 3, 4]) (ks := [2]) (ZaL (.cons ZmI .nil)) mixed (Zai rfl)
    (fun i => stAM R0 p0 R1 p1 R2 p2 (mZ l) sp 3 i false) (fun i => i ≤ l.length ∧ i ≤ 4 ∧ ∀ j, j < i → ZbB (l.getD j []) = true) (fun i => l.length - i) 0 (vAM R0 p0 R1 p1 R2 p2 (mZ l) sp 3) (vAM R0 p0 R1 p1 R2 p2 (mZ l) sp 3) (fun i hp => ?_) ⟨Nat.zero_le _, Nat.zero_le _, fun j hj => by omega⟩ h1
  obtain ⟨hi, h4, hj⟩ := hp
  show ZaR band bor Tryz.prog _ _ Tryz.f68 1 _ _ _ _ _ _ _
  rw [Zvu]
  by_cases hl : i < l.length
  · by_cases h4' : i = 4
    · have e4 : decide ((i : Int) ≥ 4) = true := by simp; omega
      simp only [Zaf, Int.ofNat_lt, hl, decide_true, cond_true, e4, true_and]
      exact h2 (Zbr (by omega)) _
    · have e4 : decide ((i : Int) ≥ 4) = false := by simp; omega
      have wi : IntKind.wrap .i64 ((i : Int) + 1) = ((i + 1 : Nat) : Int) := Zan (n := 1) (by omega)
      have hj1 : isJ [IntKind.i64, IntKind.i64, IntKind.i64] ((mZ l).getD i []) = true := Zav (j := 0) (n := 3) hw hl (by omega)
      simp only [Zaf, Int.ofNat_lt, hl, decide_true, cond_true, cond_false, e4, Int.natCast_nonneg, Bool.and_self, Int.toNat_natCast, ZaM, ZaO, hj1, List.drop_zero, ZaJ, true_and, wi]
      have e : ZbB (l.getD i []) = wmay ((l.getD i []).getD 0 0) ((l.getD i []).getD 1 0) ((l.getD i []).getD 2 0) := rfl
      rw [← e]
      cases ho : ZbB (l.getD i []) with
      | false => exact h2 (Zbf hl ho) _
      | true =>
        refine ⟨i + 1, by omega, ⟨hl, by omega, fun j hji => ?_⟩, rfl⟩
        rcases Nat.lt_succ_iff_lt_or_eq.1 hji with hji | rfl
        · exact hj j hji
        · exact ho
  · have e : i = l.length := by omega
    subst e
    simp only [Zaf, Int.ofNat_lt, Nat.lt_irrefl, decide_false, cond_false, true_and]
    exact h3 (ZbH h4 hj)
theorem Zq0 {R0 p0 R1 p1 R2 p2 R3 p3 : List (List D)} (h0 : okZ 3 R0 = true) (h1 : okZ 3 R1 = true) (h2 : okZ 3 R2 = true) (h3 : okZ 3 R3 = true) (Q : Exit → X → Prop) (x : X) (h : Zsg R0 p0 R1 p1 R2 p2 R3 p3 Q x) : XWP Tryz.prog (.loop (Zar Tryz.f68 1)) Q x := by
  obtain ⟨g, h⟩ := Zhu h
  obtain ⟨e0, w0, n0⟩ := Zah h0
  obtain ⟨e1, w1, n1⟩ := Zah h1
  obtain ⟨e2, w2, n2⟩ := Zah h2
  obtain ⟨e3, w3, n3⟩ := Zah h3
  rw [← Zal] at n0 n1 n2 n3
  cases hd : decide (g = 0) with
  | true =>
    rw [hd, cond_true] at h
    exact Zuy w0 n0 Q x (by rw [← e0]; exact h)
  | false =>
    rw [hd, cond_false] at h
    cases hd : decide (g = 1) with
    | true =>
      rw [hd, cond_true] at h
      exact Zvl w1 n1 Q x (by rw [← e1]; exact h)
    | false =>
      rw [hd, cond_false] at h
      cases hd : decide (g = 2) with
      | true =>
        rw [hd, cond_true] at h
        exact ZuP w2 n2 Q x (by rw [← e2]; exact h)
      | false =>
        rw [hd, cond_false] at h
        exact Zu7 w3 n3 Q x (by rw [← e3]; exact h)
theorem Zf8 : Zad Tryz.prog 68 ZcP := o_of Tryz.func68 (by kernel_rfl) rfl fun ds Q h => by
  unfold ZcP at h; split at h
  · rename_i R0 p0 R1 p1 R2 p2 R3 p3
    obtain ⟨h1, h2⟩ := Zag h
    obtain ⟨a0, a1, a2, a3⟩ := Zb2 h1
    refine ⟨_, ZaC (l := []) (m := [(5, Zsg R0 p0 R1 p1 R2 p2 R3 p3)]) .nil mixed (ZrM rfl (by kernel_rfl) (by kernel_rfl) (Zq0 a0 a1 a2 a3)) Tryz.func68 rfl rfl rfl ?_, rfl, rfl, h2⟩
    rw [Zun]
    have key : ∀ p q : Bool, (p && q) = true → p = true := fun p q h => by simp at h; exact h.1
    simp only [amay, true_and]
    refine ⟨fun h _ => by rw [h]; rfl, fun h => ?_⟩
    rw [h]
    refine ⟨fun h _ => by rw [h]; rfl, fun h => ?_⟩
    rw [h]
    refine ⟨fun h _ => by rw [h]; rfl, fun h => ?_⟩
    rw [h]
    refine ⟨fun h _ => by rw [h]; rfl, fun h => ?_⟩
    rw [h]
    rfl
  · exact h.elim
def thr (n0 n1 n2 n3 : Nat) (lv num : Int) : Bool := bif lab lv then bif decide (num ≥ 0) then bif decide (lv = 0) then decide (num < (n0 : Int)) else bif decide (lv = 1) then decide (num < (n1 : Int)) else bif decide (lv = 2) then decide (num < (n2 : Int)) else decide (num < (n3 : Int)) else false else false
def sThr : Spec := fun ds Q => match ds with | [.c (.p 0 [.s 0 3 R0 p0, .s 0 3 R1 p1, .s 0 3 R2 p2, .s 0 3 R3 p3] 0), .c (.v (.int .i64 lv)), .c (.v (.int .i64 num))] => Q (B (thr R0.length R1.length R2.length R3.length lv num)) | _ => False
def Zfm : Spec := fun ds Q => match ds with | [.agg [.s 0 3 R0 p0, .s 0 3 R1 p1, .s 0 3 R2 p2, .s 0 3 R3 p3], .c (.v (.int .i64 lv)), .c (.v (.int .i64 num))] => Q (B (thr R0.length R1.length R2.length R3.length lv num)) | _ => False
theorem ZmE (n0 n1 n2 n3 : Nat) (lv num : Int) (K : DV → Prop) (h : K (B (thr n0 n1 n2 n3 lv num))) : bif lab lv then bif decide (num ≥ 0) then bif decide (lv = 0) then K (B (decide (num < (n0 : Int)))) else bif decide (lv = 1) then K (B (decide (num < (n1 : Int)))) else bif decide (lv = 2) then K (B (decide (num < (n2 : Int)))) else bif decide (lv = 3) then K (B (decide (num < (n3 : Int)))) else False else K (B false) else K (B false) := by
  unfold thr at h
  cases hl : lab lv with
  | false => rw [hl] at h; exact h
  | true =>
    rw [hl] at h
    have : decide (lv = 0) = false → decide (lv = 1) = false → decide (lv = 2) = false → decide (lv = 3) = true := fun h0 h1 h2 => by
      rcases ZjW hl with rfl | rfl | rfl | rfl <;> simp_all
    cases hn : decide (num ≥ 0) <;> rw [hn] at h <;> simp only [cond_true, cond_false] at h ⊢
    · exact h
    · cases h0 : decide (lv = 0) <;> rw [h0] at h <;> simp only [cond_true, cond_false] at h ⊢
      · cases h1 : decide (lv = 1) <;> rw [h1] at h <;> simp only [cond_true, cond_false] at h ⊢
        · cases h2 : decide (lv = 2) <;> rw [h2] at h <;> simp only [cond_true, cond_false] at h ⊢
          · rw [this h0 h1 h2]; exact h
          · exact h
        · exact h
      · exact h
theorem oThr : Zad Tryz.prog 157 sThr := o_of Tryz.func157 (by kernel_rfl) rfl fun ds Q h => by
  unfold sThr at h; split at h
  · refine ⟨_, Zak (.cons oLab .nil) mixed Tryz.func157 rfl rfl rfl ?_, rfl, rfl, h⟩
    rw [eThr]
    exact ZmE _ _ _ _ _ _ (fun r => r = _) rfl
  · exact h.elim
theorem Zjq : Zad Tryz.prog 164 Zfm := o_of Tryz.func164 (by kernel_rfl) rfl fun ds Q h => by
  unfold Zfm at h; split at h
  · refine ⟨_, Zak (.cons Znh .nil) mixed Tryz.func164 rfl rfl rfl ?_, rfl, rfl, h⟩
    rw [Zv5]
    exact ZmE _ _ _ _ _ _ (fun r => r = _) rfl
  · exact h.elim
end

section
open Go Go.Proofs
def selA {α : Type} (lv : Int) (a b c d : α) : α := bif decide (lv = 0) then a else bif decide (lv = 1) then b else bif decide (lv = 2) then c else d
def wrd (l : List (List Int)) (num : Int) : List Int := l.getD num.toNat []
def dW (r : List Int) : DV := .agg [vi (r.getD 0 0), vi (r.getD 1 0), vi (r.getD 2 0)]
abbrev dNil : DV := .agg [nilD, nilD, nilD, nilD]
abbrev dO (R0 R1 R2 R3 : List (List D)) : DV := .agg [.s 1 3 R0 [], .s 1 3 R1 [], .s 1 3 R2 [], .s 1 3 R3 []]
def gotA (a b c d : List (List Int)) (lv num : Int) (Q : DV → Prop) : Prop := cond (amay a b c d) (cond (thr a.length b.length c.length d.length lv num) (Q (.tup [dW (wrd (selA lv a b c d) num), I 0])) (Q (.tup [.agg [vi 0, vi 0, vi 0], I 400]))) (Q (.tup [.agg [vi 0, vi 0, vi 0], I 400]))
def sGet : Spec := fun ds Q => match ds with | [.agg [.s 0 3 R0 p0, .s 0 3 R1 p1, .s 0 3 R2 p2, .s 0 3 R3 p3], .c (.v (.int .i64 lv)), .c (.v (.int .i64 num))] => cond (okA R0 R1 R2 R3) (gotA (toZ R0) (toZ R1) (toZ R2) (toZ R3) lv num Q) False | _ => False
def okC (R : List (List D)) : Bool := allV R && decide (R.length ≤ 5864062014635)
def okC4 (R0 R1 R2 R3 : List (List D)) : Bool := okC R0 && (okC R1 && (okC R2 && okC R3))
theorem ZgV {R0 R1 R2 R3 : List (List D)} (h : okC4 R0 R1 R2 R3 = true) : (allV R0 = true ∧ R0.length ≤ 5864062014635) ∧ (allV R1 = true ∧ R1.length ≤ 5864062014635) ∧ (allV R2 = true ∧ R2.length ≤ 5864062014635) ∧ (allV R3 = true ∧ R3.length ≤ 5864062014635) := by
  simpa [okC4, okC, Bool.and_eq_true] using h
def ZbT : Spec := fun ds Q => match ds with | [.agg [.s 0 3 R0 p0, .s 0 3 R1 p1, .s 0 3 R2 p2, .s 0 3 R3 p3]] => cond (okC4 R0 R1 R2 R3) (Q (dO R0 R1 R2 R3)) False | _ => False
theorem ZtJ (R0 p0 R1 p1 R2 p2 R3 p3 : List (List D)) (K : DV → Prop) : (ask Tryz.prog [(148, Zem)] Tryz.f93 [dA R0 p0 R1 p1 R2 p2 R3 p3] K) = (bif allV R0 && decide (List.length R0 ≤ 5864062014635) then bif allV R1 && decide (List.length R1 ≤ 5864062014635) then bif allV R2 && decide (List.length R2 ≤ 5864062014635) then bif allV R3 && decide (List.length R3 ≤ 5864062014635) then bif decide (List.length R0 ≤ List.length (R0 ++ [])) && List.all (R0 ++ []) fun r => List.all r D.keeps then bif decide (List.length R1 ≤ List.length (R1 ++ [])) && List.all (R1 ++ []) fun r => List.all r D.keeps then bif decide (List.length R2 ≤ List.length (R2 ++ [])) && List.all (R2 ++ []) fun r => List.all r D.keeps then bif decide (List.length R3 ≤ List.length (R3 ++ [])) && List.all (R3 ++ []) fun r => List.all r D.keeps then K (DV.agg [D.s (1) (3) (List.take (List.length R0) (R0 ++ [])) (List.take (List.length R0 + 0 - List.length R0) (List.drop (List.length R0) (R0 ++ []))), D.s (1) (3) (List.take (List.length R1) (R1 ++ [])) (List.take (List.length R1 + 0 - List.length R1) (List.drop (List.length R1) (R1 ++ []))), D.s (1) (3) (List.take (List.length R2) (R2 ++ [])) (List.take (List.length R2 + 0 - List.length R2) (List.drop (List.length R2) (R2 ++ []))), D.s (1) (3) (List.take (List.length R3) (R3 ++ [])) (List.take (List.length R3 + 0 - List.length R3) (List.drop (List.length R3) (R3 ++ [])))]) else False else False else False else False else False else False else False else False) := by kernel_rfl
theorem Zud (R0 p0 R1 p1 R2 p2 R3 p3 : List (List D)) (K : DV → Prop) : (ask Tryz.prog [] Tryz.f97 [dA R0 p0 R1 p1 R2 p2 R3 p3] K) = (bif allV R0 then bif true && (decide ((0 + List.length R0) * 24 ≤ 140737488355328) && decide (0 + List.length R0 ≤ 9223372036854775807)) then bif allV R1 then bif true && (decide ((0 + List.length R1) * 24 ≤ 140737488355328) && decide (0 + List.length R1 ≤ 9223372036854775807)) then bif allV R2 then bif true && (decide ((0 + List.length R2) * 24 ≤ 140737488355328) && decide (0 + List.length R2 ≤ 9223372036854775807)) then bif allV R3 then bif true && (decide ((0 + List.length R3) * 24 ≤ 140737488355328) && decide (0 + List.length R3 ≤ 9223372036854775807)) then bif decide (0 + List.length R0 ≤ List.length ([] ++ R0)) && List.all ([] ++ R0) fun r => List.all r D.keeps then bif decide (0 + List.length R1 ≤ List.length ([] ++ R1)) && List.all ([] ++ R1) fun r => List.all r D.keeps then bif decide (0 + List.length R2 ≤ List.length ([] ++ R2)) && List.all ([] ++ R2) fun r => List.all r D.keeps then bif decide (0 + List.length R3 ≤ List.length ([] ++ R3)) && List.all ([] ++ R3) fun r => List.all r D.keeps then K (DV.agg [D.s (1) (3) (List.take (0 + List.length R0) ([] ++ R0)) (List.take (0 + List.length R0 - (0 + List.length R0)) (List.drop (0 + List.length R0) ([] ++ R0))), D.s (1) (3) (List.take (0 + List.length R1) ([] ++ R1)) (List.take (0 + List.length R1 - (0 + List.length R1)) (List.drop (0 + List.length R1) ([] ++ R1))), D.s (1) (3) (List.take (0 + List.length R2) ([] ++ R2)) (List.take (0 + List.length R2 - (0 + List.length R2)) (List.drop (0 + List.length R2) ([] ++ R2))), D.s (1) (3) (List.take (0 + List.length R3) ([] ++ R3)) (List.take (0 + List.length R3 - (0 + List.length R3)) (List.drop (0 + List.length R3) ([] ++ R3)))]) else False else False else False else False else False else False else False else False else False else False else False else False) := by kernel_rfl
theorem Zup (R0 p0 R1 p1 R2 p2 R3 p3 : List (List D)) (K : DV → Prop) : (ask Tryz.prog [] Tryz.f46 [dA R0 p0 R1 p1 R2 p2 R3 p3] K) = (bif allV R0 then bif true && (decide ((0 + List.length R0) * 24 ≤ 140737488355328) && decide (0 + List.length R0 ≤ 9223372036854775807)) then bif allV R1 then bif true && (decide ((0 + List.length R1) * 24 ≤ 140737488355328) && decide (0 + List.length R1 ≤ 9223372036854775807)) then bif allV R2 then bif true && (decide ((0 + List.length R2) * 24 ≤ 140737488355328) && decide (0 + List.length R2 ≤ 9223372036854775807)) then bif allV R3 then bif true && (decide ((0 + List.length R3) * 24 ≤ 140737488355328) && decide (0 + List.length R3 ≤ 9223372036854775807)) then bif decide (0 + List.length R0 ≤ List.length ([] ++ R0)) && List.all ([] ++ R0) fun r => List.all r D.keeps then bif decide (0 + List.length R1 ≤ List.length ([] ++ R1)) && List.all ([] ++ R1) fun r => List.all r D.keeps then bif decide (0 + List.length R2 ≤ List.length ([] ++ R2)) && List.all ([] ++ R2) fun r => List.all r D.keeps then bif decide (0 + List.length R3 ≤ List.length ([] ++ R3)) && List.all ([] ++ R3) fun r => List.all r D.keeps then K (DV.agg [D.s (1) (3) (List.take (0 + List.length R0) ([] ++ R0)) (List.take (0 + List.length R0 - (0 + List.length R0)) (List.drop (0 + List.length R0) ([] ++ R0))), D.s (1) (3) (List.take (0 + List.length R1) ([] ++ R1)) (List.take (0 + List.length R1 - (0 + List.length R1)) (List.drop (0 + List.length R1) ([] ++ R1))), D.s (1) (3) (List.take (0 + List.length R2) ([] ++ R2)) (List.take (0 + List.length R2 - (0 + List.length R2)) (List.drop (0 + List.length R2) ([] ++ R2))), D.s (1) (3) (List.take (0 + List.length R3) ([] ++ R3)) (List.take (0 + List.length R3 - (0 + List.length R3)) (List.drop (0 + List.length R3) ([] ++ R3)))]) else False else False else False else False else False else False else False else False else False else False else False else False) := by kernel_rfl
theorem Zrv {R0 R1 R2 R3 : List (List D)} (h0 : allV R0 = true) (h1 : allV R1 = true) (h2 : allV R2 = true) (h3 : allV R3 = true) : (dO R0 R1 R2 R3).pureOwn = true := by
  simp [DV.pureOwn, DV.pureOwn.go, DV.pure1, D.pureOwn, ownL, ZaQ h0, ZaQ h1, ZaQ h2, ZaQ h3, ZeI]
theorem Zji : Zad Tryz.prog 93 ZbT := o_of Tryz.func93 (by kernel_rfl) rfl fun ds Q h => by
  unfold ZbT at h; split at h
  · rename_i R0 p0 R1 p1 R2 p2 R3 p3
    obtain ⟨h1, h2⟩ := Zag h
    obtain ⟨⟨a0, l0⟩, ⟨a1, l1⟩, ⟨a2, l2⟩, ⟨a3, l3⟩⟩ := ZgV h1
    refine ⟨_, Zak (.cons ZkU .nil) mixed Tryz.func93 rfl rfl rfl ?_, Zrv a0 a1 a2 a3, rfl, h2⟩
    rw [ZtJ]
    have g0 : R0.length * 24 ≤ 140737488355328 := by omega
    have g1 : R1.length * 24 ≤ 140737488355328 := by omega
    have g2 : R2.length * 24 ≤ 140737488355328 := by omega
    have g3 : R3.length * 24 ≤ 140737488355328 := by omega
    have k0 : R0.length ≤ 9223372036854775807 := by omega
    have k1 : R1.length ≤ 9223372036854775807 := by omega
    have k2 : R2.length ≤ 9223372036854775807 := by omega
    have k3 : R3.length ≤ 9223372036854775807 := by omega
    simp only [a0, a1, a2, a3, l0, l1, l2, l3, g0, g1, g2, g3, k0, k1, k2, k3, Zaq a0, Zaq a1, Zaq a2, Zaq a3, Nat.zero_add, Nat.add_zero, List.nil_append, List.append_nil, decide_true, Bool.and_self, Bool.true_and, cond_true, Nat.le_refl, List.take_length, List.drop_length, Nat.sub_self, List.take_nil, List.take_zero]
  · exact h.elim
theorem Zjj : Zad Tryz.prog 97 ZbT := o_of Tryz.func97 (by kernel_rfl) rfl fun ds Q h => by
  unfold ZbT at h; split at h
  · rename_i R0 p0 R1 p1 R2 p2 R3 p3
    obtain ⟨h1, h2⟩ := Zag h
    obtain ⟨⟨a0, l0⟩, ⟨a1, l1⟩, ⟨a2, l2⟩, ⟨a3, l3⟩⟩ := ZgV h1
    refine ⟨_, Zak (.nil) mixed Tryz.func97 rfl rfl rfl ?_, Zrv a0 a1 a2 a3, rfl, h2⟩
    rw [Zud]
    have g0 : R0.length * 24 ≤ 140737488355328 := by omega
    have g1 : R1.length * 24 ≤ 140737488355328 := by omega
    have g2 : R2.length * 24 ≤ 140737488355328 := by omega
    have g3 : R3.length * 24 ≤ 140737488355328 := by omega
    have k0 : R0.length ≤ 9223372036854775807 := by omega
    have k1 : R1.length ≤ 9223372036854775807 := by omega
    have k2 : R2.length ≤ 9223372036854775807 := by omega
    have k3 : R3.length ≤ 9223372036854775807 := by omega
    simp only [a0, a1, a2, a3, l0, l1, l2, l3, g0, g1, g2, g3, k0, k1, k2, k3, Zaq a0, Zaq a1, Zaq a2, Zaq a3, Nat.zero_add, Nat.add_zero, List.nil_append, List.append_nil, decide_true, Bool.and_self, Bool.true_and, cond_true, Nat.le_refl, List.take_length, List.drop_length, Nat.sub_self, List.take_nil, List.take_zero]
  · exact h.elim
theorem Zr3 : Zad Tryz.prog 46 ZbT := o_of Tryz.func46 (by kernel_rfl) rfl fun ds Q h => by
  unfold ZbT at h; split at h
  · rename_i R0 p0 R1 p1 R2 p2 R3 p3
    obtain ⟨h1, h2⟩ := Zag h
    obtain ⟨⟨a0, l0⟩, ⟨a1, l1⟩, ⟨a2, l2⟩, ⟨a3, l3⟩⟩ := ZgV h1
    refine ⟨_, Zak (.nil) mixed Tryz.func46 rfl rfl rfl ?_, Zrv a0 a1 a2 a3, rfl, h2⟩
    rw [Zup]
    have g0 : R0.length * 24 ≤ 140737488355328 := by omega
    have g1 : R1.length * 24 ≤ 140737488355328 := by omega
    have g2 : R2.length * 24 ≤ 140737488355328 := by omega
    have g3 : R3.length * 24 ≤ 140737488355328 := by omega
    have k0 : R0.length ≤ 9223372036854775807 := by omega
    have k1 : R1.length ≤ 9223372036854775807 := by omega
    have k2 : R2.length ≤ 9223372036854775807 := by omega
    have k3 : R3.length ≤ 9223372036854775807 := by omega
    simp only [a0, a1, a2, a3, l0, l1, l2, l3, g0, g1, g2, g3, k0, k1, k2, k3, Zaq a0, Zaq a1, Zaq a2, Zaq a3, Nat.zero_add, Nat.add_zero, List.nil_append, List.append_nil, decide_true, Bool.and_self, Bool.true_and, cond_true, Nat.le_refl, List.take_length, List.drop_length, Nat.sub_self, List.take_nil, List.take_zero]
  · exact h.elim
def w3 (a b c : Int) : List D := [vi a, vi b, vi c]
theorem Zq8 {R0 R1 R2 R3 : List (List D)} (h0 : okZ 3 R0 = true) (h1 : okZ 3 R1 = true) (h2 : okZ 3 R2 = true) (h3 : okZ 3 R3 = true) (n : Int) : (DV.tup [dO R0 R1 R2 R3, I n]).pureOwn = true := by
  have := Zrv (Zaa h0) (Zaa h1) (Zaa h2) (Zaa h3)
  simp [DV.pureOwn, DV.pureOwn.go, DV.pure1, D.pureOwn, ownL, ZaQ (Zaa h0), ZaQ (Zaa h1), ZaQ (Zaa h2), ZaQ (Zaa h3), ZeI]
end

section
open Go Go.Proofs
def mL (l : List (List Int)) : List (List Int) := l.map fun r => [r.getD 0 0, 0, 0]
def mW (R : List (List D)) : List (List D) := mZ (mL (toZ R))
abbrev dV (R0 p0 R1 p1 R2 p2 R3 p3 : List (List D)) : DV := .agg [.s 0 1 R0 p0, .s 0 1 R1 p1, .s 0 1 R2 p2, .s 0 1 R3 p3]
def boxL (y : X) (k j : Nat) : Nat := match (rowOf y k).getD j .non with | .rs _ _ _ _ len _ => len | _ => 0
def stQ0 (R0 p0 R1 p1 R2 p2 R3 p3 : List (List D)) (e i : Int) : X := ⟨mkT 47 [(1, .c (.rp 2 0 4 0 0)), (2, .c (.rp 3 0 4 0 0)), (3, ai e), (4, .c (.rp 5 0 4 0 0)), (5, ai 0), (6, ai i)], [(2, .bx 0 4 [.d (.s 0 1 R0 p0), .d (.s 0 1 R1 p1), .d (.s 0 1 R2 p2), .d (.s 0 1 R3 p3)]), (3, .bx 0 4 [.d nilD, .d nilD, .d nilD, .d nilD]), (5, .bx 0 4 [.d nilD, .d nilD, .d nilD, .d nilD])], [], []⟩
def stM0 (R0 p0 R1 p1 R2 p2 R3 p3 : List (List D)) (W : List (List D)) (m : Nat) (e i : Int) : X := ⟨mkT 47 [(1, .c (.rp 2 0 4 0 0)), (2, .c (.rp 3 0 4 0 0)), (3, ai e), (4, .c (.rp 5 0 4 0 0)), (5, ai 0), (6, ai i)], [(2, .bx 0 4 [.d (.s 0 1 R0 p0), .d (.s 0 1 R1 p1), .d (.s 0 1 R2 p2), .d (.s 0 1 R3 p3)]), (3, .bx 0 4 [.d nilD, .d nilD, .d nilD, .d nilD]), (5, .bx 0 4 [.rs 2000000 0 3 0 m m, .d nilD, .d nilD, .d nilD]), (2000000, .sl 0 3 W)], [], []⟩
def vM0 (R0 p0 R1 p1 R2 p2 R3 p3 : List (List D)) (y : X) : X := stM0 R0 p0 R1 p1 R2 p2 R3 p3 (Zih y 2000000) (boxL y 5 0) (Zcn y 3) (Zcn y 6)
theorem eM0r (R0 p0 R1 p1 R2 p2 R3 p3 : List (List D)) (W : List (List D)) (m : Nat) (e i : Int) (N : X → Prop) (E : Exit → X → Prop) : (ZaR band bor Tryz.prog [(91, sB val8)] [] Tryz.f50 1 [1, 2, 3, 4, 5, 6] [2, 3, 5, 2000000] (vM0 R0 p0 R1 p1 R2 p2 R3 p3) (vM0 R0 p0 R1 p1 R2 p2 R3 p3) N E (stM0 R0 p0 R1 p1 R2 p2 R3 p3 W m e i)) = (bif decide (i < @Nat.cast Int _ (List.length R0)) then bif decide (i ≥ 4) then stM0 R0 p0 R1 p1 R2 p2 R3 p3 W m (400) i = stM0 R0 p0 R1 p1 R2 p2 R3 p3 W m (400) i ∧ E Exit.ret (stM0 R0 p0 R1 p1 R2 p2 R3 p3 W m (400) i) else bif decide (0 ≤ i) && decide (i < @Nat.cast Int _ (List.length R0)) then bif isJ [IntKind.i64] (List.drop (0) (List.getD R0 (Int.toNat i) [])) then bif !(decide (hdJ (List.drop (0) (List.getD R0 (Int.toNat i) [])) ≥ 0) && decide (hdJ (List.drop (0) (List.getD R0 (Int.toNat i) [])) ≤ 255)) then stM0 R0 p0 R1 p1 R2 p2 R3 p3 W m (400) i = stM0 R0 p0 R1 p1 R2 p2 R3 p3 W m (400) i ∧ E Exit.ret (stM0 R0 p0 R1 p1 R2 p2 R3 p3 W m (400) i) else bif decide (0 ≤ i) && decide (i < @Nat.cast Int _ (List.length R0)) then bif isJ [IntKind.i64] (List.drop (0) (List.getD R0 (Int.toNat i) [])) then bif decide (m ≤ List.length W) && (decide ((m + 1) * 24 ≤ 140737488355328) && decide (m + 1 ≤ 9223372036854775807)) then stM0 R0 p0 R1 p1 R2 p2 R3 p3 (List.take m W ++ [[D.v (Value.int IntKind.i64 (hdJ (List.drop (0) (List.getD R0 (Int.toNat i) [])))), D.v (Value.int IntKind.i64 (0)), D.v (Value.int IntKind.i64 (0))]]) (Nat.succ m) e (IntKind.wrap IntKind.i64 (i + 1)) = stM0 R0 p0 R1 p1 R2 p2 R3 p3 (List.take m W ++ [[D.v (Value.int IntKind.i64 (hdJ (List.drop (0) (List.getD R0 (Int.toNat i) [])))), D.v (Value.int IntKind.i64 (0)), D.v (Value.int IntKind.i64 (0))]]) (Nat.succ m) e (IntKind.wrap IntKind.i64 (i + 1)) ∧ N (stM0 R0 p0 R1 p1 R2 p2 R3 p3 (List.take m W ++ [[D.v (Value.int IntKind.i64 (hdJ (List.drop (0) (List.getD R0 (Int.toNat i) [])))), D.v (Value.int IntKind.i64 (0)), D.v (Value.int IntKind.i64 (0))]]) (Nat.succ m) e (IntKind.wrap IntKind.i64 (i + 1))) else False else False else False else False else False else stM0 R0 p0 R1 p1 R2 p2 R3 p3 W m e i = stM0 R0 p0 R1 p1 R2 p2 R3 p3 W m e i ∧ E (Exit.exit (2)) (stM0 R0 p0 R1 p1 R2 p2 R3 p3 W m e i)) := by kernel_rfl
def sM0 (R0 p0 R1 p1 R2 p2 R3 p3 : List (List D)) : LSum := fun Q x => x.only [1, 2, 3, 4, 5, 6] [2, 3, 5, 2000000] = stQ0 R0 p0 R1 p1 R2 p2 R3 p3 0 0 ∧ (ZaN (toZ (mW R0)) = false → ∀ (W : List (List D)) (m : Nat) (i : Int), Q .ret (stM0 R0 p0 R1 p1 R2 p2 R3 p3 W m 400 i)) ∧ (ZaN (toZ (mW R0)) = true → Q (.exit 2) (stM0 R0 p0 R1 p1 R2 p2 R3 p3 (mW R0) R0.length 0 R0.length))
def stQ1 (R0 p0 R1 p1 R2 p2 R3 p3 : List (List D)) (e i : Int) : X := ⟨mkT 47 [(1, .c (.rp 2 0 4 0 0)), (2, .c (.rp 3 0 4 0 0)), (3, ai e), (4, .c (.rp 5 0 4 0 0)), (5, ai 1), (6, ai i)], [(2, .bx 0 4 [.d (.s 0 1 R0 p0), .d (.s 0 1 R1 p1), .d (.s 0 1 R2 p2), .d (.s 0 1 R3 p3)]), (3, .bx 0 4 [.d nilD, .d nilD, .d nilD, .d nilD]), (5, .bx 0 4 [.rs 2000000 0 3 0 R0.length R0.length, .d nilD, .d nilD, .d nilD]), (2000000, .sl 0 3 (mW R0))], [], []⟩
def stM1 (R0 p0 R1 p1 R2 p2 R3 p3 : List (List D)) (W : List (List D)) (m : Nat) (e i : Int) : X := ⟨mkT 47 [(1, .c (.rp 2 0 4 0 0)), (2, .c (.rp 3 0 4 0 0)), (3, ai e), (4, .c (.rp 5 0 4 0 0)), (5, ai 1), (6, ai i)], [(2, .bx 0 4 [.d (.s 0 1 R0 p0), .d (.s 0 1 R1 p1), .d (.s 0 1 R2 p2), .d (.s 0 1 R3 p3)]), (3, .bx 0 4 [.d nilD, .d nilD, .d nilD, .d nilD]), (5, .bx 0 4 [.rs 2000000 0 3 0 R0.length R0.length, .rs 2000001 0 3 0 m m, .d nilD, .d nilD]), (2000000, .sl 0 3 (mW R0)), (2000001, .sl 0 3 W)], [], []⟩
def vM1 (R0 p0 R1 p1 R2 p2 R3 p3 : List (List D)) (y : X) : X := stM1 R0 p0 R1 p1 R2 p2 R3 p3 (Zih y 2000001) (boxL y 5 1) (Zcn y 3) (Zcn y 6)
theorem eM1r (R0 p0 R1 p1 R2 p2 R3 p3 : List (List D)) (W : List (List D)) (m : Nat) (e i : Int) (N : X → Prop) (E : Exit → X → Prop) : (ZaR band bor Tryz.prog [(91, sB val8)] [] Tryz.f50 1 [1, 2, 3, 4, 5, 6] [2, 3, 5, 2000000, 2000001] (vM1 R0 p0 R1 p1 R2 p2 R3 p3) (vM1 R0 p0 R1 p1 R2 p2 R3 p3) N E (stM1 R0 p0 R1 p1 R2 p2 R3 p3 W m e i)) = (bif decide (i < @Nat.cast Int _ (List.length R1)) then bif decide (i ≥ 4) then stM1 R0 p0 R1 p1 R2 p2 R3 p3 W m (400) i = stM1 R0 p0 R1 p1 R2 p2 R3 p3 W m (400) i ∧ E Exit.ret (stM1 R0 p0 R1 p1 R2 p2 R3 p3 W m (400) i) else bif decide (0 ≤ i) && decide (i < @Nat.cast Int _ (List.length R1)) then bif isJ [IntKind.i64] (List.drop (0) (List.getD R1 (Int.toNat i) [])) then bif !(decide (hdJ (List.drop (0) (List.getD R1 (Int.toNat i) [])) ≥ 0) && decide (hdJ (List.drop (0) (List.getD R1 (Int.toNat i) [])) ≤ 255)) then stM1 R0 p0 R1 p1 R2 p2 R3 p3 W m (400) i = stM1 R0 p0 R1 p1 R2 p2 R3 p3 W m (400) i ∧ E Exit.ret (stM1 R0 p0 R1 p1 R2 p2 R3 p3 W m (400) i) else bif decide (0 ≤ i) && decide (i < @Nat.cast Int _ (List.length R1)) then bif isJ [IntKind.i64] (List.drop (0) (List.getD R1 (Int.toNat i) [])) then bif decide (m ≤ List.length W) && (decide ((m + 1) * 24 ≤ 140737488355328) && decide (m + 1 ≤ 9223372036854775807)) then stM1 R0 p0 R1 p1 R2 p2 R3 p3 (List.take m W ++ [[D.v (Value.int IntKind.i64 (hdJ (List.drop (0) (List.getD R1 (Int.toNat i) [])))), D.v (Value.int IntKind.i64 (0)), D.v (Value.int IntKind.i64 (0))]]) (Nat.succ m) e (IntKind.wrap IntKind.i64 (i + 1)) = stM1 R0 p0 R1 p1 R2 p2 R3 p3 (List.take m W ++ [[D.v (Value.int IntKind.i64 (hdJ (List.drop (0) (List.getD R1 (Int.toNat i) [])))), D.v (Value.int IntKind.i64 (0)), D.v (Value.int IntKind.i64 (0))]]) (Nat.succ m) e (IntKind.wrap IntKind.i64 (i + 1)) ∧ N (stM1 R0 p0 R1 p1 R2 p2 R3 p3 (List.take m W ++ [[D.v (Value.int IntKind.i64 (hdJ (List.drop (0) (List.getD R1 (Int.toNat i) [])))), D.v (Value.int IntKind.i64 (0)), D.v (Value.int IntKind.i64 (0))]]) (Nat.succ m) e (IntKind.wrap IntKind.i64 (i + 1))) else False else False else False else False else False else stM1 R0 p0 R1 p1 R2 p2 R3 p3 W m e i = stM1 R0 p0 R1 p1 R2 p2 R3 p3 W m e i ∧ E (Exit.exit (2)) (stM1 R0 p0 R1 p1 R2 p2 R3 p3 W m e i)) := by kernel_rfl
def sM1 (R0 p0 R1 p1 R2 p2 R3 p3 : List (List D)) : LSum := fun Q x => x.only [1, 2, 3, 4, 5, 6] [2, 3, 5, 2000000, 2000001] = stQ1 R0 p0 R1 p1 R2 p2 R3 p3 0 0 ∧ (ZaN (toZ (mW R1)) = false → ∀ (W : List (List D)) (m : Nat) (i : Int), Q .ret (stM1 R0 p0 R1 p1 R2 p2 R3 p3 W m 400 i)) ∧ (ZaN (toZ (mW R1)) = true → Q (.exit 2) (stM1 R0 p0 R1 p1 R2 p2 R3 p3 (mW R1) R1.length 0 R1.length))
def stQ2 (R0 p0 R1 p1 R2 p2 R3 p3 : List (List D)) (e i : Int) : X := ⟨mkT 47 [(1, .c (.rp 2 0 4 0 0)), (2, .c (.rp 3 0 4 0 0)), (3, ai e), (4, .c (.rp 5 0 4 0 0)), (5, ai 2), (6, ai i)], [(2, .bx 0 4 [.d (.s 0 1 R0 p0), .d (.s 0 1 R1 p1), .d (.s 0 1 R2 p2), .d (.s 0 1 R3 p3)]), (3, .bx 0 4 [.d nilD, .d nilD, .d nilD, .d nilD]), (5, .bx 0 4 [.rs 2000000 0 3 0 R0.length R0.length, .rs 2000001 0 3 0 R1.length R1.length, .d nilD, .d nilD]), (2000000, .sl 0 3 (mW R0)), (2000001, .sl 0 3 (mW R1))], [], []⟩
def stM2 (R0 p0 R1 p1 R2 p2 R3 p3 : List (List D)) (W : List (List D)) (m : Nat) (e i : Int) : X := ⟨mkT 47 [(1, .c (.rp 2 0 4 0 0)), (2, .c (.rp 3 0 4 0 0)), (3, ai e), (4, .c (.rp 5 0 4 0 0)), (5, ai 2), (6, ai i)], [(2, .bx 0 4 [.d (.s 0 1 R0 p0), .d (.s 0 1 R1 p1), .d (.s 0 1 R2 p2), .d (.s 0 1 R3 p3)]), (3, .bx 0 4 [.d nilD, .d nilD, .d nilD, .d nilD]), (5, .bx 0 4 [.rs 2000000 0 3 0 R0.length R0.length, .rs 2000001 0 3 0 R1.length R1.length, .rs 2000002 0 3 0 m m, .d nilD]), (2000000, .sl 0 3 (mW R0)), (2000001, .sl 0 3 (mW R1)), (2000002, .sl 0 3 W)], [], []⟩
def vM2 (R0 p0 R1 p1 R2 p2 R3 p3 : List (List D)) (y : X) : X := stM2 R0 p0 R1 p1 R2 p2 R3 p3 (Zih y 2000002) (boxL y 5 2) (Zcn y 3) (Zcn y 6)
theorem eM2r (R0 p0 R1 p1 R2 p2 R3 p3 : List (List D)) (W : List (List D)) (m : Nat) (e i : Int) (N : X → Prop) (E : Exit → X → Prop) : (ZaR band bor Tryz.prog [(91, sB val8)] [] Tryz.f50 1 [1, 2, 3, 4, 5, 6] [2, 3, 5, 2000000, 2000001, 2000002] (vM2 R0 p0 R1 p1 R2 p2 R3 p3) (vM2 R0 p0 R1 p1 R2 p2 R3 p3) N E (stM2 R0 p0 R1 p1 R2 p2 R3 p3 W m e i)) = (bif decide (i < @Nat.cast Int _ (List.length R2)) then bif decide (i ≥ 4) then stM2 R0 p0 R1 p1 R2 p2 R3 p3 W m (400) i = stM2 R0 p0 R1 p1 R2 p2 R3 p3 W m (400) i ∧ E Exit.ret (stM2 R0 p0 R1 p1 R2 p2 R3 p3 W m (400) i) else bif decide (0 ≤ i) && decide (i < @Nat.cast Int _ (List.length R2)) then bif isJ [IntKind.i64] (List.drop (0) (List.getD R2 (Int.toNat i) [])) then bif !(decide (hdJ (List.drop (0) (List.getD R2 (Int.toNat i) [])) ≥ 0) && decide (hdJ (List.drop (0) (List.getD R2 (Int.toNat i) [])) ≤ 255)) then stM2 R0 p0 R1 p1 R2 p2 R3 p3 W m (400) i = stM2 R0 p0 R1 p1 R2 p2 R3 p3 W m (400) i ∧ E Exit.ret (stM2 R0 p0 R1 p1 R2 p2 R3 p3 W m (400) i) else bif decide (0 ≤ i) && decide (i < @Nat.cast Int _ (List.length R2)) then bif isJ [IntKind.i64] (List.drop (0) (List.getD R2 (Int.toNat i) [])) then bif decide (m ≤ List.length W) && (decide ((m + 1) * 24 ≤ 140737488355328) && decide (m + 1 ≤ 9223372036854775807)) then stM2 R0 p0 R1 p1 R2 p2 R3 p3 (List.take m W ++ [[D.v (Value.int IntKind.i64 (hdJ (List.drop (0) (List.getD R2 (Int.toNat i) [])))), D.v (Value.int IntKind.i64 (0)), D.v (Value.int IntKind.i64 (0))]]) (Nat.succ m) e (IntKind.wrap IntKind.i64 (i + 1)) = stM2 R0 p0 R1 p1 R2 p2 R3 p3 (List.take m W ++ [[D.v (Value.int IntKind.i64 (hdJ (List.drop (0) (List.getD R2 (Int.toNat i) [])))), D.v (Value.int IntKind.i64 (0)), D.v (Value.int IntKind.i64 (0))]]) (Nat.succ m) e (IntKind.wrap IntKind.i64 (i + 1)) ∧ N (stM2 R0 p0 R1 p1 R2 p2 R3 p3 (List.take m W ++ [[D.v (Value.int IntKind.i64 (hdJ (List.drop (0) (List.getD R2 (Int.toNat i) [])))), D.v (Value.int IntKind.i64 (0)), D.v (Value.int IntKind.i64 (0))]]) (Nat.succ m) e (IntKind.wrap IntKind.i64 (i + 1))) else False else False else False else False else False else stM2 R0 p0 R1 p1 R2 p2 R3 p3 W m e i = stM2 R0 p0 R1 p1 R2 p2 R3 p3 W m e i ∧ E (Exit.exit (2)) (stM2 R0 p0 R1 p1 R2 p2 R3 p3 W m e i)) := by kernel_rfl
def sM2 (R0 p0 R1 p1 R2 p2 R3 p3 : List (List D)) : LSum := fun Q x => x.only [1, 2, 3, 4, 5, 6] [2, 3, 5, 2000000, 2000001, 2000002] = stQ2 R0 p0 R1 p1 R2 p2 R3 p3 0 0 ∧ (ZaN (toZ (mW R2)) = false → ∀ (W : List (List D)) (m : Nat) (i : Int), Q .ret (stM2 R0 p0 R1 p1 R2 p2 R3 p3 W m 400 i)) ∧ (ZaN (toZ (mW R2)) = true → Q (.exit 2) (stM2 R0 p0 R1 p1 R2 p2 R3 p3 (mW R2) R2.length 0 R2.length))
def stQ3 (R0 p0 R1 p1 R2 p2 R3 p3 : List (List D)) (e i : Int) : X := ⟨mkT 47 [(1, .c (.rp 2 0 4 0 0)), (2, .c (.rp 3 0 4 0 0)), (3, ai e), (4, .c (.rp 5 0 4 0 0)), (5, ai 3), (6, ai i)], [(2, .bx 0 4 [.d (.s 0 1 R0 p0), .d (.s 0 1 R1 p1), .d (.s 0 1 R2 p2), .d (.s 0 1 R3 p3)]), (3, .bx 0 4 [.d nilD, .d nilD, .d nilD, .d nilD]), (5, .bx 0 4 [.rs 2000000 0 3 0 R0.length R0.length, .rs 2000001 0 3 0 R1.length R1.length, .rs 2000002 0 3 0 R2.length R2.length, .d nilD]), (2000000, .sl 0 3 (mW R0)), (2000001, .sl 0 3 (mW R1)), (2000002, .sl 0 3 (mW R2))], [], []⟩
def stM3 (R0 p0 R1 p1 R2 p2 R3 p3 : List (List D)) (W : List (List D)) (m : Nat) (e i : Int) : X := ⟨mkT 47 [(1, .c (.rp 2 0 4 0 0)), (2, .c (.rp 3 0 4 0 0)), (3, ai e), (4, .c (.rp 5 0 4 0 0)), (5, ai 3), (6, ai i)], [(2, .bx 0 4 [.d (.s 0 1 R0 p0), .d (.s 0 1 R1 p1), .d (.s 0 1 R2 p2), .d (.s 0 1 R3 p3)]), (3, .bx 0 4 [.d nilD, .d nilD, .d nilD, .d nilD]), (5, .bx 0 4 [.rs 2000000 0 3 0 R0.length R0.length, .rs 2000001 0 3 0 R1.length R1.length, .rs 2000002 0 3 0 R2.length R2.length, .rs 2000003 0 3 0 m m]), (2000000, .sl 0 3 (mW R0)), (2000001, .sl 0 3 (mW R1)), (2000002, .sl 0 3 (mW R2)), (2000003, .sl 0 3 W)], [], []⟩
def vM3 (R0 p0 R1 p1 R2 p2 R3 p3 : List (List D)) (y : X) : X := stM3 R0 p0 R1 p1 R2 p2 R3 p3 (Zih y 2000003) (boxL y 5 3) (Zcn y 3) (Zcn y 6)
theorem eM3r (R0 p0 R1 p1 R2 p2 R3 p3 : List (List D)) (W : List (List D)) (m : Nat) (e i : Int) (N : X → Prop) (E : Exit → X → Prop) : (ZaR band bor Tryz.prog [(91, sB val8)] [] Tryz.f50 1 [1, 2, 3, 4, 5, 6] [2, 3, 5, 2000000, 2000001, 2000002, 2000003] (vM3 R0 p0 R1 p1 R2 p2 R3 p3) (vM3 R0 p0 R1 p1 R2 p2 R3 p3) N E (stM3 R0 p0 R1 p1 R2 p2 R3 p3 W m e i)) = (bif decide (i < @Nat.cast Int _ (List.length R3)) then bif decide (i ≥ 4) then stM3 R0 p0 R1 p1 R2 p2 R3 p3 W m (400) i = stM3 R0 p0 R1 p1 R2 p2 R3 p3 W m (400) i ∧ E Exit.ret (stM3 R0 p0 R1 p1 R2 p2 R3 p3 W m (400) i) else bif decide (0 ≤ i) && decide (i < @Nat.cast Int _ (List.length R3)) then bif isJ [IntKind.i64] (List.drop (0) (List.getD R3 (Int.toNat i) [])) then bif !(decide (hdJ (List.drop (0) (List.getD R3 (Int.toNat i) [])) ≥ 0) && decide (hdJ (List.drop (0) (List.getD R3 (Int.toNat i) [])) ≤ 255)) then stM3 R0 p0 R1 p1 R2 p2 R3 p3 W m (400) i = stM3 R0 p0 R1 p1 R2 p2 R3 p3 W m (400) i ∧ E Exit.ret (stM3 R0 p0 R1 p1 R2 p2 R3 p3 W m (400) i) else bif decide (0 ≤ i) && decide (i < @Nat.cast Int _ (List.length R3)) then bif isJ [IntKind.i64] (List.drop (0) (List.getD R3 (Int.toNat i) [])) then bif decide (m ≤ List.length W) && (decide ((m + 1) * 24 ≤ 140737488355328) && decide (m + 1 ≤ 9223372036854775807)) then stM3 R0 p0 R1 p1 R2 p2 R3 p3 (List.take m W ++ [[D.v (Value.int IntKind.i64 (hdJ (List.drop (0) (List.getD R3 (Int.toNat i) [])))), D.v (Value.int IntKind.i64 (0)), D.v (Value.int IntKind.i64 (0))]]) (Nat.succ m) e (IntKind.wrap IntKind.i64 (i + 1)) = stM3 R0 p0 R1 p1 R2 p2 R3 p3 (List.take m W ++ [[D.v (Value.int IntKind.i64 (hdJ (List.drop (0) (List.getD R3 (Int.toNat i) [])))), D.v (Value.int IntKind.i64 (0)), D.v (Value.int IntKind.i64 (0))]]) (Nat.succ m) e (IntKind.wrap IntKind.i64 (i + 1)) ∧ N (stM3 R0 p0 R1 p1 R2 p2 R3 p3 (List.take m W ++ [[D.v (Value.int IntKind.i64 (hdJ (List.drop (0) (List.getD R3 (Int.toNat i) [])))), D.v (Value.int IntKind.i64 (0)), D.v (Value.int IntKind.i64 (0))]]) (Nat.succ m) e (IntKind.wrap IntKind.i64 (i + 1))) else False else False else False else False else False else stM3 R0 p0 R1 p1 R2 p2 R3 p3 W m e i = stM3 R0 p0 R1 p1 R2 p2 R3 p3 W m e i ∧ E (Exit.exit (2)) (stM3 R0 p0 R1 p1 R2 p2 R3 p3 W m e i)) := by kernel_rfl
def sM3 (R0 p0 R1 p1 R2 p2 R3 p3 : List (List D)) : LSum := fun Q x => x.only [1, 2, 3, 4, 5, 6] [2, 3, 5, 2000000, 2000001, 2000002, 2000003] = stQ3 R0 p0 R1 p1 R2 p2 R3 p3 0 0 ∧ (ZaN (toZ (mW R3)) = false → ∀ (W : List (List D)) (m : Nat) (i : Int), Q .ret (stM3 R0 p0 R1 p1 R2 p2 R3 p3 W m 400 i)) ∧ (ZaN (toZ (mW R3)) = true → Q (.exit 2) (stM3 R0 p0 R1 p1 R2 p2 R3 p3 (mW R3) R3.length 0 R3.length))
def Zgp (R0 p0 R1 p1 R2 p2 R3 p3 : List (List D)) : LSum := fun Q x => Zqn x 5 fun g =>
  cond (decide (g = 0)) (sM0 R0 p0 R1 p1 R2 p2 R3 p3 Q x) (cond (decide (g = 1)) (sM1 R0 p0 R1 p1 R2 p2 R3 p3 Q x) (cond (decide (g = 2)) (sM2 R0 p0 R1 p1 R2 p2 R3 p3 Q x) (sM3 R0 p0 R1 p1 R2 p2 R3 p3 Q x)))
theorem ZuL (R0 p0 R1 p1 R2 p2 R3 p3 : List (List D)) (K : DV → Prop) : (askL Tryz.prog [(91, sB val8)] [(6, Zgp R0 p0 R1 p1 R2 p2 R3 p3)] Tryz.f50 [dV R0 p0 R1 p1 R2 p2 R3 p3] K) = (stQ0 R0 p0 R1 p1 R2 p2 R3 p3 (0) (0) = stQ0 R0 p0 R1 p1 R2 p2 R3 p3 (0) (0) ∧ (ZaN (toZ (mW R0)) = false → ∀ (W : List (List D)) (m : Nat) (i : Int), K (DV.tup [DV.agg [D.v (Value.slice none (0) (0)), D.v (Value.slice none (0) (0)), D.v (Value.slice none (0) (0)), D.v (Value.slice none (0) (0))], DV.c (D.v (Value.int IntKind.i64 (400)))])) ∧ (ZaN (toZ (mW R0)) = true → stQ1 R0 p0 R1 p1 R2 p2 R3 p3 (0) (0) = stQ1 R0 p0 R1 p1 R2 p2 R3 p3 (0) (0) ∧ (ZaN (toZ (mW R1)) = false → ∀ (W : List (List D)) (m : Nat) (i : Int), K (DV.tup [DV.agg [D.v (Value.slice none (0) (0)), D.v (Value.slice none (0) (0)), D.v (Value.slice none (0) (0)), D.v (Value.slice none (0) (0))], DV.c (D.v (Value.int IntKind.i64 (400)))])) ∧ (ZaN (toZ (mW R1)) = true → stQ2 R0 p0 R1 p1 R2 p2 R3 p3 (0) (0) = stQ2 R0 p0 R1 p1 R2 p2 R3 p3 (0) (0) ∧ (ZaN (toZ (mW R2)) = false → ∀ (W : List (List D)) (m : Nat) (i : Int), K (DV.tup [DV.agg [D.v (Value.slice none (0) (0)), D.v (Value.slice none (0) (0)), D.v (Value.slice none (0) (0)), D.v (Value.slice none (0) (0))], DV.c (D.v (Value.int IntKind.i64 (400)))])) ∧ (ZaN (toZ (mW R2)) = true → stQ3 R0 p0 R1 p1 R2 p2 R3 p3 (0) (0) = stQ3 R0 p0 R1 p1 R2 p2 R3 p3 (0) (0) ∧ (ZaN (toZ (mW R3)) = false → ∀ (W : List (List D)) (m : Nat) (i : Int), K (DV.tup [DV.agg [D.v (Value.slice none (0) (0)), D.v (Value.slice none (0) (0)), D.v (Value.slice none (0) (0)), D.v (Value.slice none (0) (0))], DV.c (D.v (Value.int IntKind.i64 (400)))])) ∧ (ZaN (toZ (mW R3)) = true → bif decide (List.length R0 ≤ List.length (mW R0)) && List.all (mW R0) fun r => List.all r D.keeps then bif decide (List.length R1 ≤ List.length (mW R1)) && List.all (mW R1) fun r => List.all r D.keeps then bif decide (List.length R2 ≤ List.length (mW R2)) && List.all (mW R2) fun r => List.all r D.keeps then bif decide (List.length R3 ≤ List.length (mW R3)) && List.all (mW R3) fun r => List.all r D.keeps then K (DV.tup [DV.agg [D.s (1) (3) (List.take (List.length R0) (mW R0)) (List.take (List.length R0 - List.length R0) (List.drop (List.length R0) (mW R0))), D.s (1) (3) (List.take (List.length R1) (mW R1)) (List.take (List.length R1 - List.length R1) (List.drop (List.length R1) (mW R1))), D.s (1) (3) (List.take (List.length R2) (mW R2)) (List.take (List.length R2 - List.length R2) (List.drop (List.length R2) (mW R2))), D.s (1) (3) (List.take (List.length R3) (mW R3)) (List.take (List.length R3 - List.length R3) (List.drop (List.length R3) (mW R3)))], DV.c (D.v (Value.int IntKind.i64 (0)))]) else False else False else False else False))))) := by kernel_rfl
theorem Zbv (l : List (List Int)) : (mL l).length = l.length := by simp [mL]
theorem ZrV (R : List (List D)) : (mW R).length = R.length := by simp [mW, Zaf, Zbv, Zal]
theorem ZiM (l : List (List Int)) {i : Nat} (hi : i < l.length) : List.take i (mZ (mL (l.take i))) ++ [[D.v (Value.int IntKind.i64 ((l.getD i []).getD 0 0)), D.v (Value.int IntKind.i64 0), D.v (Value.int IntKind.i64 0)]] = mZ (mL (l.take (i + 1))) := by
  rw [List.take_of_length_le (by rw [Zaf, Zbv, List.length_take]; omega)]
  have : l.take (i + 1) = l.take i ++ [l.getD i []] := by
    rw [List.take_add_one, List.getD_eq_getElem?_getD]
    congr 1
    rw [List.getElem?_eq_getElem hi]; rfl
  rw [this]
  simp [mZ, mL]
theorem Zml (l : List (List Int)) {i : Nat} (hi : i < l.length) : (mL l).getD i [] = [(l.getD i []).getD 0 0, 0, 0] := by
  simp [mL, List.getD_eq_getElem?_getD, hi]
theorem ZiG (v : Int) : ZbB [v, 0, 0] = val8 v := by
  have h1 : clk 0 = true := rfl
  have h2 : upto 0 0 255 = true := rfl
  simp [ZbB, wmay, h1, h2]
theorem Zt1 (l : List (List Int)) : wid 3 (mL l) := fun r hr => by
  obtain ⟨r0, _, rfl⟩ := List.mem_map.1 hr
  rfl
theorem Zdu (R : List (List D)) : toZ (mW R) = mL (toZ R) := Zdz _
theorem Zm7 {R : List (List D)} (h : okZ 1 R = true) : okZ 3 (mW R) = true := ZjZ (Zt1 _) (by rw [Zbv, Zal]; exact (Zah h).2.2)
theorem Zw2 {R0 p0 R1 p1 R2 p2 R3 p3 : List (List D)} (hR : okZ 1 R0 = true) (hn : R0.length ≤ 5864062014635) (Q : Exit → X → Prop) (x : X) (h : sM0 R0 p0 R1 p1 R2 p2 R3 p3 Q x) : XWP Tryz.prog (.loop (Zar Tryz.f50 1)) Q x := by
  obtain ⟨h1, h2, h3⟩ := h
  obtain ⟨el, hw, _⟩ := Zah hR
  have hl' : (toZ R0).length = R0.length := Zal _
  refine Zd0 [1, 2, 3, 4, 5, 6] [2, 3, 5, 2000000] (ZeL [1, 2, 3, 4, 5, 6] [2, 3, 5, 2000000] ?_)
  rw [h1]
  refine ZfR (kb := 5) (j := 0) (kn := 2000000) (wd := 3) rfl ?_
  refine ZaB (ι := Nat) (H := hkA band bor [(91, sB val8)] []) (fn := Tryz.f50) (i := 1) (ts := [1, 2, 3, 4, 5, 6]) (ks := [2, 3, 5, 2000000]) (ZaL (.cons ZgJ .nil)) mixed (Zai rfl)
    (fun i => stM0 R0 p0 R1 p1 R2 p2 R3 p3 (mZ (mL ((toZ R0).take i))) i 0 i) (fun i => i ≤ R0.length ∧ i ≤ 4 ∧ ∀ j, j < i → ZbB ((mL (toZ R0)).getD j []) = true) (fun i => R0.length - i) 0 (vM0 R0 p0 R1 p1 R2 p2 R3 p3) (vM0 R0 p0 R1 p1 R2 p2 R3 p3) (fun i hp => ?_) ⟨Nat.zero_le _, Nat.zero_le _, fun j hj => by omega⟩ (by kernel_rfl)
  obtain ⟨hi, h4, hj⟩ := hp
  show ZaR band bor Tryz.prog _ _ Tryz.f50 1 _ _ _ _ _ _ _
  rw [eM0r]
  by_cases hl : i < R0.length
  · by_cases h4' : i = 4
    · have e4 : decide ((i : Int) ≥ 4) = true := by simp; omega
      simp only [Int.ofNat_lt, hl, decide_true, cond_true, e4, true_and]
      exact h2 (by rw [Zdu]; exact Zbr (by rw [Zbv]; omega)) _ _ _
    · have e4 : decide ((i : Int) ≥ 4) = false := by simp; omega
      have wi : IntKind.wrap .i64 ((i : Int) + 1) = ((i + 1 : Nat) : Int) := Zan (n := 1) (by omega)
      have hll : i < (toZ R0).length := by omega
      have hj1 : isJ [IntKind.i64] ((R0).getD i []) = true := by
        rw [el]; exact Zav (j := 0) (n := 1) hw hll (by omega)
      have hv : hdJ (R0.getD i []) = ((toZ R0).getD i []).getD 0 0 := by
        rw [show R0.getD i [] = (mZ (toZ R0)).getD i [] by rw [← el], ZaJ]
      have hlen : (mZ (mL ((toZ R0).take i))).length = i := by rw [Zaf, Zbv, List.length_take]; omega
      have b1 : (i + 1) * 24 ≤ 140737488355328 := by omega
      have b2 : i + 1 ≤ 9223372036854775807 := by omega
      simp only [Int.ofNat_lt, hl, decide_true, cond_true, cond_false, e4, Int.natCast_nonneg, Bool.and_self, Int.toNat_natCast, hj1, List.drop_zero, hv, true_and, wi, hlen, b1, b2, Nat.le_refl, ZiM _ hll]
      have eo : ZbB ((mL (toZ R0)).getD i []) = (decide (((toZ R0).getD i []).getD 0 0 ≥ 0) && decide (((toZ R0).getD i []).getD 0 0 ≤ 255)) := by
        rw [Zml _ hll, ZiG]; rfl
      rw [← eo]
      cases ho : ZbB ((mL (toZ R0)).getD i []) with
      | false =>
        exact h2 (by rw [Zdu]; exact Zbf (by rw [Zbv]; exact hll) ho) _ _ _
      | true =>
        refine ⟨i + 1, by omega, ⟨hl, by omega, fun j hji => ?_⟩, rfl⟩
        rcases Nat.lt_succ_iff_lt_or_eq.1 hji with hji | rfl
        · exact hj j hji
        · exact ho
  · have e : i = R0.length := by omega
    subst e
    simp only [Int.ofNat_lt, Nat.lt_irrefl, decide_false, cond_false, true_and]
    rw [List.take_of_length_le (by omega)]
    exact h3 (by rw [Zdu]; exact ZbH (by rw [Zbv]; omega) (fun j hj' => hj j (by rw [Zbv] at hj'; omega)))
theorem Zw6 {R0 p0 R1 p1 R2 p2 R3 p3 : List (List D)} (hR : okZ 1 R1 = true) (hn : R1.length ≤ 5864062014635) (Q : Exit → X → Prop) (x : X) (h : sM1 R0 p0 R1 p1 R2 p2 R3 p3 Q x) : XWP Tryz.prog (.loop (Zar Tryz.f50 1)) Q x := by
  obtain ⟨h1, h2, h3⟩ := h
  obtain ⟨el, hw, _⟩ := Zah hR
  have hl' : (toZ R1).length = R1.length := Zal _
  refine Zd0 [1, 2, 3, 4, 5, 6] [2, 3, 5, 2000000, 2000001] (ZeL [1, 2, 3, 4, 5, 6] [2, 3, 5, 2000000, 2000001] ?_)
  rw [h1]
  refine ZfR (kb := 5) (j := 1) (kn := 2000001) (wd := 3) rfl ?_
  refine ZaB (ι := Nat) (H := hkA band bor [(91, sB val8)] []) (fn := Tryz.f50) (i := 1) (ts := [1, 2, 3, 4, 5, 6]) (ks := [2, 3, 5, 2000000, 2000001]) (ZaL (.cons ZgJ .nil)) mixed (Zai rfl)
    (fun i => stM1 R0 p0 R1 p1 R2 p2 R3 p3 (mZ (mL ((toZ R1).take i))) i 0 i) (fun i => i ≤ R1.length ∧ i ≤ 4 ∧ ∀ j, j < i → ZbB ((mL (toZ R1)).getD j []) = true) (fun i => R1.length - i) 0 (vM1 R0 p0 R1 p1 R2 p2 R3 p3) (vM1 R0 p0 R1 p1 R2 p2 R3 p3) (fun i hp => ?_) ⟨Nat.zero_le _, Nat.zero_le _, fun j hj => by omega⟩ (by kernel_rfl)
  obtain ⟨hi, h4, hj⟩ := hp
  show ZaR band bor Tryz.prog _ _ Tryz.f50 1 _ _ _ _ _ _ _
  rw [eM1r]
  by_cases hl : i < R1.length
  · by_cases h4' : i = 4
    · have e4 : decide ((i : Int) ≥ 4) = true := by simp; omega
      simp only [Int.ofNat_lt, hl, decide_true, cond_true, e4, true_and]
      exact h2 (by rw [Zdu]; exact Zbr (by rw [Zbv]; omega)) _ _ _
    · have e4 : decide ((i : Int) ≥ 4) = false := by simp; omega
      have wi : IntKind.wrap .i64 ((i : Int) + 1) = ((i + 1 : Nat) : Int) := Zan (n := 1) (by omega)
      have hll : i < (toZ R1).length := by omega
      have hj1 : isJ [IntKind.i64] ((R1).getD i []) = true := by
        rw [el]; exact Zav (j := 0) (n := 1) hw hll (by omega)
      have hv : hdJ (R1.getD i []) = ((toZ R1).getD i []).getD 0 0 := by
        rw [show R1.getD i [] = (mZ (toZ R1)).getD i [] by rw [← el], ZaJ]
      have hlen : (mZ (mL ((toZ R1).take i))).length = i := by rw [Zaf, Zbv, List.length_take]; omega
      have b1 : (i + 1) * 24 ≤ 140737488355328 := by omega
      have b2 : i + 1 ≤ 9223372036854775807 := by omega
      simp only [Int.ofNat_lt, hl, decide_true, cond_true, cond_false, e4, Int.natCast_nonneg, Bool.and_self, Int.toNat_natCast, hj1, List.drop_zero, hv, true_and, wi, hlen, b1, b2, Nat.le_refl, ZiM _ hll]
      have eo : ZbB ((mL (toZ R1)).getD i []) = (decide (((toZ R1).getD i []).getD 0 0 ≥ 0) && decide (((toZ R1).getD i []).getD 0 0 ≤ 255)) := by
        rw [Zml _ hll, ZiG]; rfl
      rw [← eo]
      cases ho : ZbB ((mL (toZ R1)).getD i []) with
      | false =>
        exact h2 (by rw [Zdu]; exact Zbf (by rw [Zbv]; exact hll) ho) _ _ _
      | true =>
        refine ⟨i + 1, by omega, ⟨hl, by omega, fun j hji => ?_⟩, rfl⟩
        rcases Nat.lt_succ_iff_lt_or_eq.1 hji with hji | rfl
        · exact hj j hji
        · exact ho
  · have e : i = R1.length := by omega
    subst e
    simp only [Int.ofNat_lt, Nat.lt_irrefl, decide_false, cond_false, true_and]
    rw [List.take_of_length_le (by omega)]
    exact h3 (by rw [Zdu]; exact ZbH (by rw [Zbv]; omega) (fun j hj' => hj j (by rw [Zbv] at hj'; omega)))
theorem Zvw {R0 p0 R1 p1 R2 p2 R3 p3 : List (List D)} (hR : okZ 1 R2 = true) (hn : R2.length ≤ 5864062014635) (Q : Exit → X → Prop) (x : X) (h : sM2 R0 p0 R1 p1 R2 p2 R3 p3 Q x) : XWP Tryz.prog (.loop (Zar Tryz.f50 1)) Q x := by
  obtain ⟨h1, h2, h3⟩ := h
  obtain ⟨el, hw, _⟩ := Zah hR
  have hl' : (toZ R2).length = R2.length := Zal _
  refine Zd0 [1, 2, 3, 4, 5, 6] [2, 3, 5, 2000000, 2000001, 2000002] (ZeL [1, 2, 3, 4, 5, 6] [2, 3, 5, 2000000, 2000001, 2000002] ?_)
  rw [h1]
  refine ZfR (kb := 5) (j := 2) (kn := 2000002) (wd := 3) rfl ?_
  refine ZaB (ι := Nat) (H := hkA band bor [(91, sB val8)] []) (fn := Tryz.f50) (i := 1) (ts := [1, 2, 3, 4, 5, 6]) (ks := [2, 3, 5, 2000000, 2000001, 2000002]) (ZaL (.cons ZgJ .nil)) mixed (Zai rfl)
    (fun i => stM2 R0 p0 R1 p1 R2 p2 R3 p3 (mZ (mL ((toZ R2).take i))) i 0 i) (fun i => i ≤ R2.length ∧ i ≤ 4 ∧ ∀ j, j < i → ZbB ((mL (toZ R2)).getD j []) = true) (fun i => R2.length - i) 0 (vM2 R0 p0 R1 p1 R2 p2 R3 p3) (vM2 R0 p0 R1 p1 R2 p2 R3 p3) (fun i hp => ?_) ⟨Nat.zero_le _, Nat.zero_le _, fun j hj => by omega⟩ (by kernel_rfl)
  obtain ⟨hi, h4, hj⟩ := hp
  show ZaR band bor Tryz.prog _ _ Tryz.f50 1 _ _ _ _ _ _ _
  rw [eM2r]
  by_cases hl : i < R2.length
  · by_cases h4' : i = 4
    · have e4 : decide ((i : Int) ≥ 4) = true := by simp; omega
      simp only [Int.ofNat_lt, hl, decide_true, cond_true, e4, true_and]
      exact h2 (by rw [Zdu]; exact Zbr (by rw [Zbv]; omega)) _ _ _
    · have e4 : decide ((i : Int) ≥ 4) = false := by simp; omega
      have wi : IntKind.wrap .i64 ((i : Int) + 1) = ((i + 1 : Nat) : Int) := Zan (n := 1) (by omega)
      have hll : i < (toZ R2).length := by omega
      have hj1 : isJ [IntKind.i64] ((R2).getD i []) = true := by
        rw [el]; exact Zav (j := 0) (n := 1) hw hll (by omega)
      have hv : hdJ (R2.getD i []) = ((toZ R2).getD i []).getD 0 0 := by
        rw [show R2.getD i [] = (mZ (toZ R2)).getD i [] by rw [← el], ZaJ]
      have hlen : (mZ (mL ((toZ R2).take i))).length = i := by rw [Zaf, Zbv, List.length_take]; omega
      have b1 : (i + 1) * 24 ≤ 140737488355328 := by omega
      have b2 : i + 1 ≤ 9223372036854775807 := by omega
      simp only [Int.ofNat_lt, hl, decide_true, cond_true, cond_false, e4, Int.natCast_nonneg, Bool.and_self, Int.toNat_natCast, hj1, List.drop_zero, hv, true_and, wi, hlen, b1, b2, Nat.le_refl, ZiM _ hll]
      have eo : ZbB ((mL (toZ R2)).getD i []) = (decide (((toZ R2).getD i []).getD 0 0 ≥ 0) && decide (((toZ R2).getD i []).getD 0 0 ≤ 255)) := by
        rw [Zml _ hll, ZiG]; rfl
      rw [← eo]
      cases ho : ZbB ((mL (toZ R2)).getD i []) with
      | false =>
        exact h2 (by rw [Zdu]; exact Zbf (by rw [Zbv]; exact hll) ho) _ _ _
      | true =>
        refine ⟨i + 1, by omega, ⟨hl, by omega, fun j hji => ?_⟩, rfl⟩
        rcases Nat.lt_succ_iff_lt_or_eq.1 hji with hji | rfl
        · exact hj j hji
        · exact ho
  · have e : i = R2.length := by omega
    subst e
    simp only [Int.ofNat_lt, Nat.lt_irrefl, decide_false, cond_false, true_and]
    rw [List.take_of_length_le (by omega)]
    exact h3 (by rw [Zdu]; exact ZbH (by rw [Zbv]; omega) (fun j hj' => hj j (by rw [Zbv] at hj'; omega)))
theorem Zwq {R0 p0 R1 p1 R2 p2 R3 p3 : List (List D)} (hR : okZ 1 R3 = true) (hn : R3.length ≤ 5864062014635) (Q : Exit → X → Prop) (x : X) (h : sM3 R0 p0 R1 p1 R2 p2 R3 p3 Q x) : XWP Tryz.prog (.loop (Zar Tryz.f50 1)) Q x := by
  obtain ⟨h1, h2, h3⟩ := h
  obtain ⟨el, hw, _⟩ := Zah hR
  have hl' : (toZ R3).length = R3.length := Zal _
  refine Zd0 [1, 2, 3, 4, 5, 6] [2, 3, 5, 2000000, 2000001, 2000002, 2000003] (ZeL [1, 2, 3, 4, 5, 6] [2, 3, 5, 2000000, 2000001, 2000002, 2000003] ?_)
  rw [h1]
  refine ZfR (kb := 5) (j := 3) (kn := 2000003) (wd := 3) rfl ?_
  refine ZaB (ι := Nat) (H := hkA band bor [(91, sB val8)] []) (fn := Tryz.f50) (i := 1) (ts := [1, 2, 3, 4, 5, 6]) (ks := [2, 3, 5, 2000000, 2000001, 2000002, 2000003]) (ZaL (.cons ZgJ .nil)) mixed (Zai rfl)
    (fun i => stM3 R0 p0 R1 p1 R2 p2 R3 p3 (mZ (mL ((toZ R3).take i))) i 0 i) (fun i => i ≤ R3.length ∧ i ≤ 4 ∧ ∀ j, j < i → ZbB ((mL (toZ R3)).getD j []) = true) (fun i => R3.length - i) 0 (vM3 R0 p0 R1 p1 R2 p2 R3 p3) (vM3 R0 p0 R1 p1 R2 p2 R3 p3) (fun i hp => ?_) ⟨Nat.zero_le _, Nat.zero_le _, fun j hj => by omega⟩ (by kernel_rfl)
  obtain ⟨hi, h4, hj⟩ := hp
  show ZaR band bor Tryz.prog _ _ Tryz.f50 1 _ _ _ _ _ _ _
  rw [eM3r]
  by_cases hl : i < R3.length
  · by_cases h4' : i = 4
    · have e4 : decide ((i : Int) ≥ 4) = true := by simp; omega
      simp only [Int.ofNat_lt, hl, decide_true, cond_true, e4, true_and]
      exact h2 (by rw [Zdu]; exact Zbr (by rw [Zbv]; omega)) _ _ _
    · have e4 : decide ((i : Int) ≥ 4) = false := by simp; omega
      have wi : IntKind.wrap .i64 ((i : Int) + 1) = ((i + 1 : Nat) : Int) := Zan (n := 1) (by omega)
      have hll : i < (toZ R3).length := by omega
      have hj1 : isJ [IntKind.i64] ((R3).getD i []) = true := by
        rw [el]; exact Zav (j := 0) (n := 1) hw hll (by omega)
      have hv : hdJ (R3.getD i []) = ((toZ R3).getD i []).getD 0 0 := by
        rw [show R3.getD i [] = (mZ (toZ R3)).getD i [] by rw [← el], ZaJ]
      have hlen : (mZ (mL ((toZ R3).take i))).length = i := by rw [Zaf, Zbv, List.length_take]; omega
      have b1 : (i + 1) * 24 ≤ 140737488355328 := by omega
      have b2 : i + 1 ≤ 9223372036854775807 := by omega
      simp only [Int.ofNat_lt, hl, decide_true, cond_true, cond_false, e4, Int.natCast_nonneg, Bool.and_self, Int.toNat_natCast, hj1, List.drop_zero, hv, true_and, wi, hlen, b1, b2, Nat.le_refl, ZiM _ hll]
      have eo : ZbB ((mL (toZ R3)).getD i []) = (decide (((toZ R3).getD i []).getD 0 0 ≥ 0) && decide (((toZ R3).getD i []).getD 0 0 ≤ 255)) := by
        rw [Zml _ hll, ZiG]; rfl
      rw [← eo]
      cases ho : ZbB ((mL (toZ R3)).getD i []) with
      | false =>
        exact h2 (by rw [Zdu]; exact Zbf (by rw [Zbv]; exact hll) ho) _ _ _
      | true =>
        refine ⟨i + 1, by omega, ⟨hl, by omega, fun j hji => ?_⟩, rfl⟩
        rcases Nat.lt_succ_iff_lt_or_eq.1 hji with hji | rfl
        · exact hj j hji
        · exact ho
  · have e : i = R3.length := by omega
    subst e
    simp only [Int.ofNat_lt, Nat.lt_irrefl, decide_false, cond_false, true_and]
    rw [List.take_of_length_le (by omega)]
    exact h3 (by rw [Zdu]; exact ZbH (by rw [Zbv]; omega) (fun j hj' => hj j (by rw [Zbv] at hj'; omega)))
theorem Zns {R0 p0 R1 p1 R2 p2 R3 p3 : List (List D)} (h0 : okZ 1 R0 = true) (h1 : okZ 1 R1 = true) (h2 : okZ 1 R2 = true) (h3 : okZ 1 R3 = true) (l0 : R0.length ≤ 5864062014635) (l1 : R1.length ≤ 5864062014635) (l2 : R2.length ≤ 5864062014635) (l3 : R3.length ≤ 5864062014635) (Q : Exit → X → Prop) (x : X) (h : Zgp R0 p0 R1 p1 R2 p2 R3 p3 Q x) : XWP Tryz.prog (.loop (Zar Tryz.f50 1)) Q x := by
  obtain ⟨g, h⟩ := Zhu h
  cases hd : decide (g = 0) with
  | true =>
    rw [hd, cond_true] at h
    exact Zw2 h0 l0 Q x h
  | false =>
    rw [hd, cond_false] at h
    cases hd : decide (g = 1) with
    | true =>
      rw [hd, cond_true] at h
      exact Zw6 h1 l1 Q x h
    | false =>
      rw [hd, cond_false] at h
      cases hd : decide (g = 2) with
      | true =>
        rw [hd, cond_true] at h
        exact Zvw h2 l2 Q x h
      | false =>
        rw [hd, cond_false] at h
        exact Zwq h3 l3 Q x h
def okV (R : List (List D)) : Bool := okZ 1 R && decide (R.length ≤ 5864062014635)
def okV4 (R0 R1 R2 R3 : List (List D)) : Bool := okV R0 && (okV R1 && (okV R2 && okV R3))
theorem Zn9 {R0 R1 R2 R3 : List (List D)} (h : okV4 R0 R1 R2 R3 = true) : (okZ 1 R0 = true ∧ R0.length ≤ 5864062014635) ∧ (okZ 1 R1 = true ∧ R1.length ≤ 5864062014635) ∧ (okZ 1 R2 = true ∧ R2.length ≤ 5864062014635) ∧ (okZ 1 R3 = true ∧ R3.length ≤ 5864062014635) := by
  simpa [okV4, okV, Bool.and_eq_true] using h
def sNew : Spec := fun ds Q => match ds with | [.agg [.s 0 1 R0 p0, .s 0 1 R1 p1, .s 0 1 R2 p2, .s 0 1 R3 p3]] => cond (okV4 R0 R1 R2 R3) (cond (amay (toZ (mW R0)) (toZ (mW R1)) (toZ (mW R2)) (toZ (mW R3))) (Q (.tup [dO (mW R0) (mW R1) (mW R2) (mW R3), I 0])) (Q (.tup [dNil, I 400]))) False | _ => False
theorem Zw7 : Zad Tryz.prog 50 sNew := o_of Tryz.func50 (by kernel_rfl) rfl fun ds Q h => by
  unfold sNew at h; split at h
  · rename_i R0 p0 R1 p1 R2 p2 R3 p3
    obtain ⟨h1, h2⟩ := Zag h
    obtain ⟨⟨a0, l0⟩, ⟨a1, l1⟩, ⟨a2, l2⟩, ⟨a3, l3⟩⟩ := Zn9 h1
    have z0 := Zm7 a0
    have z1 := Zm7 a1
    have z2 := Zm7 a2
    have z3 := Zm7 a3
    have hz : okA (mW R0) (mW R1) (mW R2) (mW R3) = true := by simp [okA, z0, z1, z2, z3]
    have hL : Zaz Tryz.prog (hkl [(91, sB val8)] [(6, Zgp R0 p0 R1 p1 R2 p2 R3 p3)]) (Zao Tryz.f50) := ZrM rfl (by kernel_rfl) (by kernel_rfl) (Zns a0 a1 a2 a3 l0 l1 l2 l3)
    have tk : ∀ R : List (List D), List.take R.length (mW R) = mW R := fun R => List.take_of_length_le (by rw [ZrV]; omega)
    cases hm : amay (toZ (mW R0)) (toZ (mW R1)) (toZ (mW R2)) (toZ (mW R3)) with
    | false =>
      rw [hm] at h2
      refine ⟨_, ZaC (l := [(91, sB val8)]) (m := [(6, Zgp R0 p0 R1 p1 R2 p2 R3 p3)]) (.cons ZgJ .nil) mixed hL Tryz.func50 rfl rfl rfl ?_, rfl, rfl, h2⟩
      rw [ZuL]
      cases q0 : ZaN (toZ (mW R0)) with
      | false => exact ⟨rfl, fun _ _ _ _ => rfl, fun e => (nomatch e)⟩
      | true =>
        refine ⟨rfl, fun e => (nomatch e), fun _ => ?_⟩
        cases q1 : ZaN (toZ (mW R1)) with
        | false => exact ⟨rfl, fun _ _ _ _ => rfl, fun e => (nomatch e)⟩
        | true =>
          refine ⟨rfl, fun e => (nomatch e), fun _ => ?_⟩
          cases q2 : ZaN (toZ (mW R2)) with
          | false => exact ⟨rfl, fun _ _ _ _ => rfl, fun e => (nomatch e)⟩
          | true =>
            refine ⟨rfl, fun e => (nomatch e), fun _ => ?_⟩
            cases q3 : ZaN (toZ (mW R3)) with
            | false => exact ⟨rfl, fun _ _ _ _ => rfl, fun e => (nomatch e)⟩
            | true => rw [amay, q0, q1, q2, q3] at hm; cases hm
    | true =>
      rw [hm] at h2
      refine ⟨_, ZaC (l := [(91, sB val8)]) (m := [(6, Zgp R0 p0 R1 p1 R2 p2 R3 p3)]) (.cons ZgJ .nil) mixed hL Tryz.func50 rfl rfl rfl ?_, Zq8 z0 z1 z2 z3 _, rfl, h2⟩
      rw [ZuL]
      simp only [amay, Bool.and_eq_true] at hm
      obtain ⟨q0, q1, q2, q3⟩ := hm
      simp only [q0, q1, q2, q3, Bool.true_eq_false, false_implies, true_implies, true_and, ZrV, Nat.le_refl, decide_true, cond_true, Zaq (Zaa z0), Zaq (Zaa z1), Zaq (Zaa z2), Zaq (Zaa z3), Bool.and_self, tk, Nat.sub_self, List.take_zero]
  · exact h.elim
def Zen : Spec := fun ds Q => match ds with
  | [.agg [.s 1 3 R0 p0, .s 1 3 R1 p1, .s 1 3 R2 p2, .s 1 3 R3 p3]] => cond (okZ 3 (R0 ++ p0) && (okZ 3 (R1 ++ p1) && (okZ 3 (R2 ++ p2) && okZ 3 (R3 ++ p3)))) (Q (.tup [])) False
  | [.agg [.v (.slice none 0 0), .v (.slice none 0 0), .v (.slice none 0 0), .v (.slice none 0 0)]] => Q (.tup [])
  | _ => False
def gA : Hooks := { hkA band bor [(124, Zeo)] [] with give := fun _ => true }
theorem Zuf : Zau Tryz.prog gA := ZaL (m := []) (.cons Zl2 .nil)
def ZqV (args : List DV) (K : DV → Prop) : Prop := evp Tryz.prog gA 200 (Zao Tryz.f72) (finX Tryz.prog Tryz.f72 K) (Zbz Tryz.f72.ntmps args)
theorem Zsq (R0 p0 R1 p1 R2 p2 R3 p3 : List (List D)) (K : DV → Prop) : (ZqV [.agg [.s 1 3 R0 p0, .s 1 3 R1 p1, .s 1 3 R2 p2, .s 1 3 R3 p3]] K) = (bif decide (List.length R0 ≤ List.length (R0 ++ p0)) && List.all (R0 ++ p0) fun r => List.all r D.keeps then bif allV (R0 ++ p0) then bif okZ (3) (List.take (List.length R0) (R0 ++ p0) ++ List.take (List.length R0 + List.length p0 - List.length R0) (List.drop (List.length R0) (R0 ++ p0))) then bif decide (List.length R1 ≤ List.length (R1 ++ p1)) && List.all (R1 ++ p1) fun r => List.all r D.keeps then bif allV (R1 ++ p1) then bif okZ (3) (List.take (List.length R1) (R1 ++ p1) ++ List.take (List.length R1 + List.length p1 - List.length R1) (List.drop (List.length R1) (R1 ++ p1))) then bif decide (List.length R2 ≤ List.length (R2 ++ p2)) && List.all (R2 ++ p2) fun r => List.all r D.keeps then bif allV (R2 ++ p2) then bif okZ (3) (List.take (List.length R2) (R2 ++ p2) ++ List.take (List.length R2 + List.length p2 - List.length R2) (List.drop (List.length R2) (R2 ++ p2))) then bif decide (List.length R3 ≤ List.length (R3 ++ p3)) && List.all (R3 ++ p3) fun r => List.all r D.keeps then bif allV (R3 ++ p3) then bif okZ (3) (List.take (List.length R3) (R3 ++ p3) ++ List.take (List.length R3 + List.length p3 - List.length R3) (List.drop (List.length R3) (R3 ++ p3))) then K (DV.tup []) else False else False else False else False else False else False else False else False else False else False else False else False) := by kernel_rfl
theorem Zru (K : DV → Prop) : (ZqV [dNil] K) = (K (DV.tup [])) := by kernel_rfl
theorem Zs6 : Zad Tryz.prog 72 Zen := o_of Tryz.func72 (by kernel_rfl) rfl fun ds Q h => by
  unfold Zen at h; split at h
  · rename_i R0 p0 R1 p1 R2 p2 R3 p3
    obtain ⟨h1, h2⟩ := Zag h
    simp only [Bool.and_eq_true] at h1
    obtain ⟨a0, a1, a2, a3⟩ := h1
    refine ⟨_, Zb9 Zuf mixed 200 Tryz.func72 rfl (fun b hb s hs => by cases hs) (Nat.le_of_ble_eq_true rfl) (by simp [DV.fit32, DV.width]) ?_, rfl, rfl, h2⟩
    show ZqV _ _
    rw [Zsq]
    have kk : ∀ R p : List (List D), okZ 3 (R ++ p) = true → okZ 3 (List.take R.length (R ++ p) ++ List.take (R.length + p.length - R.length) (List.drop R.length (R ++ p))) = true := fun R p h => by
      have : List.take R.length (R ++ p) ++ List.take (R.length + p.length - R.length) (List.drop R.length (R ++ p)) = R ++ p := by simp
      rw [this]; exact h
    have le : ∀ R p : List (List D), R.length ≤ (R ++ p).length := fun R p => by simp
    simp only [kk _ _ a0, kk _ _ a1, kk _ _ a2, kk _ _ a3, le, Zaa a0, Zaa a1, Zaa a2, Zaa a3, Zaq (Zaa a0), Zaq (Zaa a1), Zaq (Zaa a2), Zaq (Zaa a3), decide_true, Bool.and_self, cond_true]
  · refine ⟨_, Zb9 Zuf mixed 200 Tryz.func72 rfl (fun b hb s hs => by cases hs) (Nat.le_of_ble_eq_true rfl) rfl ?_, rfl, rfl, h⟩
    show ZqV _ _
    rw [Zru]
  · exact h.elim
end

section
open Go Go.Proofs
theorem Zqt {α : Type} (l : List α) (p : α → Bool) : decide ((match l.findIdx? p with | some i => (i : Int) | none => -1) ≥ 0) = l.any p := by
  cases h : l.findIdx? p with
  | some i =>
    have : l.any p = true := by
      rw [List.findIdx?_eq_some_iff_getElem] at h
      obtain ⟨h1, h2, _⟩ := h
      exact List.any_eq_true.2 ⟨_, List.getElem_mem h1, h2⟩
    rw [this]; simp
  | none =>
    have : l.any p = false := by
      rw [List.findIdx?_eq_none_iff] at h
      rw [List.any_eq_false]; intro x hx; simpa using h x hx
    rw [this]; rfl
def ix4 (x : Int) : Bool := upto x 0 3
theorem eIdx (x : Int) (K : DV → Prop) : (ask Tryz.prog [] Tryz.f153 [I x] K) = (bif decide (x ≥ 0) then K (DV.c (D.v (Value.bool (decide (x < 4))))) else K (DV.c (D.v (Value.bool false)))) := by kernel_rfl
theorem oIdx : Zad Tryz.prog 153 (sB ix4) := oB Tryz.func153 (by kernel_rfl) rfl fun x => Zak .nil mixed Tryz.func153 rfl rfl rfl (by
  rw [eIdx]; unfold ix4 upto; rw [lt4]; cases decide (x ≥ 0) <;> rfl)
def askE (k : Nat) (fn : Func) (args : List DV) (K : DV → Prop) : Prop := evp Tryz.prog (hkl [] []) 200 (Zao fn) (finF Tryz.prog fn k K) (Zbz fn.ntmps args)
theorem eOf (a b c : Int) (K : DV → Prop) : (askE 2 Tryz.f155 [.agg [vi a, vi b, vi c]] K) = (K (DV.c (D.f (186) [] [D.p (0) [D.v (Value.int IntKind.i64 a), D.v (Value.int IntKind.i64 b), D.v (Value.int IntKind.i64 c)] (0)]))) := by kernel_rfl
def sOf : Spec := fun ds Q => match ds with | [.agg [.v (.int .i64 a), .v (.int .i64 b), .v (.int .i64 c)]] => Q (.c (.f 186 [] [.p 0 [vI a, vI b, vI c] 0])) | _ => False
theorem oOf : Zad Tryz.prog 155 sOf := ZwH Tryz.func155 (by kernel_rfl) rfl fun ds Q h => by
  unfold sOf at h; split at h
  · rename_i a b c
    refine ⟨_, Znz (H := hkl [] []) 2 (ZaL .nil) mixed 200 Tryz.func155 rfl (Zai rfl) (Nat.le_of_ble_eq_true rfl) rfl ?_, rfl, rfl, h⟩
    have e := eOf a b c (fun r => r = .c (.f 186 [] [.p 0 [vI a, vI b, vI c] 0]))
    exact e.mpr rfl
  · exact h.elim
theorem eOf1 (a b c x y z : Int) (K : DV → Prop) : (ask Tryz.prog [] Tryz.f186 [.agg [vi x, vi y, vi z], .c (.p 0 [vI a, vI b, vI c] 0)] K) = (bif x == a then K (DV.c (D.v (Value.bool (y == b)))) else K (DV.c (D.v (Value.bool false)))) := by kernel_rfl
def Zco (a b c : Int) (r : List Int) : Bool := bif r.getD 0 0 == a then r.getD 1 0 == b else false
def sOf1 : Spec := fun ds Q => match ds with | [.agg [.v (.int .i64 x), .v (.int .i64 y), .v (.int .i64 z)], .c (.p 0 [.v (.int .i64 a), .v (.int .i64 b), .v (.int .i64 c)] 0)] => Q (B (Zco a b c [x, y, z])) | _ => False
theorem oOf1 : Zad Tryz.prog 186 sOf1 := o_of Tryz.func186 (by kernel_rfl) rfl fun ds Q h => by
  unfold sOf1 at h; split at h
  · rename_i x y z a b c
    refine ⟨_, Zak .nil mixed Tryz.func186 rfl rfl rfl ?_, rfl, rfl, h⟩
    rw [eOf1]; unfold Zco; simp only [List.getD_cons_zero, List.getD_cons_succ]; cases x == a <;> rfl
  · exact h.elim
def sIXR (a : Int) (b : Int) (c : Int) (R : List (List D)) (sp : List (List D)) (v : Int) (i : Int) : X := ⟨mkT 19 [(0, aS 3 R sp), (1, .c (.d (.f 186 [] [.p 0 [vI a, vI b, vI c] 0]))), (4, ai v), (7, ai R.length), (8, ai i)], [], [], []⟩
def ZhP (a : Int) (b : Int) (c : Int) (R : List (List D)) (sp : List (List D)) : Vw := fun y K => wI y 4 fun v => wI y 8 fun i => K (sIXR a b c R sp v i)
theorem Zks (a : Int) (b : Int) (c : Int) (R : List (List D)) (sp : List (List D)) : VwOK (ZhP a b c R sp) := fun y K h => by
  unfold ZhP at h
  obtain ⟨v, h⟩ := Zcc h
  obtain ⟨i, h⟩ := Zcc h
  exact ⟨_, h⟩
theorem rIXR (a : Int) (b : Int) (c : Int) (R sp : List (List D)) (i v : Int) (N : X → Prop) (E : Exit → X → Prop) : (ZbV Tryz.prog (hkA band bor [(186, sOf1)] []) Tryz.f185 0 [] [0, 1, 4, 7, 8] [] (ZhP a b c R sp) (ZhP a b c R sp) N E (sIXR a b c R sp v i)) = (bif decide (i < @Nat.cast Int _ (List.length R)) then bif decide (0 ≤ i) && decide (i < @Nat.cast Int _ (List.length R)) then bif isJ [IntKind.i64, IntKind.i64, IntKind.i64] (List.drop (0) (List.getD R (Int.toNat i) [])) then bif Zco a b c [hdJ (List.drop (0) (List.getD R (Int.toNat i) [])), hdJ (List.tail (List.drop (0) (List.getD R (Int.toNat i) []))), hdJ (List.tail (List.tail (List.drop (0) (List.getD R (Int.toNat i) []))))] then sIXR a b c R sp i i = sIXR a b c R sp i i ∧ E Exit.ret (sIXR a b c R sp i i) else sIXR a b c R sp v (IntKind.wrap IntKind.i64 (i + 1)) = sIXR a b c R sp v (IntKind.wrap IntKind.i64 (i + 1)) ∧ N (sIXR a b c R sp v (IntKind.wrap IntKind.i64 (i + 1))) else False else False else sIXR a b c R sp v i = sIXR a b c R sp v i ∧ E (Exit.exit (0)) (sIXR a b c R sp v i)) := by kernel_rfl
def fIXR (a : Int) (b : Int) (c : Int) (l : List (List Int)) (sp : List (List D)) : LSum := Zdv [0, 1, 4, 7, 8] [] (fun i => sIXR a b c (mZ l) sp 0 i) (fun i => sIXR a b c (mZ l) sp i i) l.length (fun i => Zco a b c (l.getD i [])) .ret (.exit 0)
theorem eIXR (a : Int) (b : Int) (c : Int) (l : List (List Int)) (sp : List (List D)) (K : DV → Prop) : (askL Tryz.prog [] [(2, fIXR a b c l sp)] Tryz.f185 [dS 3 (mZ l) sp, .c (.f 186 [] [.p 0 [vI a, vI b, vI c] 0])] K) = (sIXR a b c (mZ l) sp (0) (0) = sIXR a b c (mZ l) sp (0) (0) ∧ (∀ (i : Nat), firstAt (fun i => Zco a b c (List.getD l i [])) (List.length l) i → K (DV.c (D.v (Value.int IntKind.i64 (@Nat.cast Int _ i))))) ∧ (noneTo (fun i => Zco a b c (List.getD l i [])) (List.length l) → K (DV.c (D.v (Value.int IntKind.i64 (-1)))))) := by kernel_rfl
theorem kIXR (a : Int) (b : Int) (c : Int) {l : List (List Int)} {sp : List (List D)} (hw : wid 3 l) (hn : l.length ≤ 9223372036854775807) (Q : Exit → X → Prop) (x : X) (h : fIXR a b c l sp Q x) : XWP Tryz.prog (.loop (Zar Tryz.f185 0)) Q x := by
  refine Zcb (H := hkA band bor [(186, sOf1)] []) (sw := []) (V := ZhP a b c (mZ l) sp) (VE := ZhP a b c (mZ l) sp) (ZaL (.cons oOf1 .nil)) mixed (Zai rfl) (Zks a b c (mZ l) sp) (Zks a b c (mZ l) sp) _ _ _ _ _ _ (fun i hl N E h1 h2 => ?_) (fun N E h1 => ?_) Q x h
  · rw [rIXR]
    have wi : IntKind.wrap .i64 ((i : Int) + 1) = ((i + 1 : Nat) : Int) := Zan (n := 1) (by omega)
    have hj1 : isJ [IntKind.i64, IntKind.i64, IntKind.i64] ((mZ l).getD i []) = true := Zav (j := 0) (n := 3) hw hl (by omega)
    simp only [Zaf, Int.ofNat_lt, hl, decide_true, cond_true, Int.natCast_nonneg, Bool.and_self, Int.toNat_natCast, ZaM, ZaO, Zbo, hj1, List.drop_zero, ZaJ, true_and, wi]
    have e : Zco a b c (l.getD i []) = Zco a b c [(l.getD i []).getD 0 0, (l.getD i []).getD 1 0, (l.getD i []).getD 2 0] := rfl
    cases ho : Zco a b c (l.getD i []) with
    | false => rw [e] at ho; rw [ho]; exact h2 (by rw [e]; exact ho)
    | true => rw [e] at ho; rw [ho]; exact h1 (by rw [e]; exact ho)
  · rw [rIXR]
    simp only [Zaf, Int.ofNat_lt, Nat.lt_irrefl, decide_false, cond_false, true_and]
    exact h1
def sIxR : Spec := fun ds Q => match ds with | [.c (.s 0 3 R sp), .c (.f 186 [] [.p 0 [.v (.int .i64 a), .v (.int .i64 b), .v (.int .i64 c)] 0])] => cond (okZ 3 R) (Q (I (match (toZ R).findIdx? (Zco a b c) with | some i => (i : Int) | none => -1))) False | _ => False
theorem oIxR : Zad Tryz.prog 185 sIxR := o_of Tryz.func185 (by kernel_rfl) rfl fun ds Q h => by
  unfold sIxR at h; split at h
  · rename_i R sp a b c
    obtain ⟨h1, h2⟩ := Zag h
    obtain ⟨e1, w1, n1⟩ := Zah h1
    rw [e1]
    rw [← Zal R] at n1
    generalize toZ R = l at *
    refine ⟨_, ZaC (l := []) (m := [(2, fIXR a b c l sp)]) .nil mixed (Za7 rfl (by kernel_rfl) (kIXR a b c w1 n1)) Tryz.func185 rfl rfl rfl ?_, rfl, rfl, h2⟩
    rw [eIXR]
    refine ⟨rfl, fun i hi => ?_, fun hn => ?_⟩
    · rw [hi.find]
    · rw [hn.find]
  · exact h.elim
theorem eCOR (a : Int) (b : Int) (c : Int) (R sp : List (List D)) (K : DV → Prop) : (ask Tryz.prog [(185, sIxR)] Tryz.f154 [dS 3 R sp, .c (.f 186 [] [.p 0 [vI a, vI b, vI c] 0])] K) = (bif okZ (3) R then K (DV.c (D.v (Value.bool (decide ((match List.findIdx? (Zco a b c) (toZ R) with | some i => @Nat.cast Int _ i | none => -1) ≥ 0))))) else False) := by kernel_rfl
def sCoR : Spec := fun ds Q => match ds with | [.c (.s 0 3 R sp), .c (.f 186 [] [.p 0 [.v (.int .i64 a), .v (.int .i64 b), .v (.int .i64 c)] 0])] => cond (okZ 3 R) (Q (B ((toZ R).any (Zco a b c)))) False | _ => False
theorem oCoR : Zad Tryz.prog 154 sCoR := o_of Tryz.func154 (by kernel_rfl) rfl fun ds Q h => by
  unfold sCoR at h; split at h
  · obtain ⟨h1, h2⟩ := Zag h
    refine ⟨_, Zak (.cons oIxR .nil) mixed Tryz.func154 rfl rfl rfl ?_, rfl, rfl, h2⟩
    rw [eCOR, h1, Zqt]; rfl
  · exact h.elim
def ok1 (a b c : Int) : Bool := bif lab a then bif ix4 b then clk c else false else false
theorem eWN (x y : Int) (K : DV → Prop) : (ask Tryz.prog [(71, sB lab), (119, sUp)] Tryz.f166 [I x, I y] K) = (bif lab x then K (DV.c (D.v (Value.bool (decide (y ≥ 0) && decide (y ≤ 3))))) else K (DV.c (D.v (Value.bool false)))) := by kernel_rfl
def wnm (x y : Int) : Bool := bif lab x then ix4 y else false
def sWN : Spec := fun ds Q => match ds with | [.c (.v (.int .i64 x)), .c (.v (.int .i64 y))] => Q (B (wnm x y)) | _ => False
theorem oWN : Zad Tryz.prog 166 sWN := o_of Tryz.func166 (by kernel_rfl) rfl fun ds Q h => by
  unfold sWN at h; split at h
  · rename_i x y
    refine ⟨_, Zak (.cons Znh (.cons oUp .nil)) mixed Tryz.func166 rfl rfl rfl ?_, rfl, rfl, h⟩
    rw [eWN]; unfold wnm ix4 upto; cases lab x <;> rfl
  · exact h.elim
end

section
open Go Go.Proofs
def badR (l : List (List Int)) (i : Nat) : Bool := !ok1 ((l.getD i []).getD 0 0) ((l.getD i []).getD 1 0) ((l.getD i []).getD 2 0) || (l.take i).any (Zco ((l.getD i []).getD 0 0) ((l.getD i []).getD 1 0) ((l.getD i []).getD 2 0))
def rmay (l : List (List Int)) : Bool := decide (l.length ≤ 16) && !(List.range l.length).any (badR l)
theorem Zqp (R sp : List (List D)) {i : Nat} (hi : i ≤ R.length) : cut (R ++ sp) 0 i = R.take i := by
  simp [cut, List.take_append_of_le_length hi]
theorem Ztv {l : List (List Int)} {p : List Int → Bool} {i k : Nat} (hi : i ≤ l.length) (h : firstAt (fun j => p (l.getD j [])) i k) : (l.take i).any p = true := by
  refine firstAt.any (d := []) (i := k) ⟨by rw [List.length_take]; have := h.1; omega, ?_, fun j hj => ?_⟩
  · show p ((l.take i).getD k []) = true
    have := h.1
    rw [show (l.take i).getD k [] = l.getD k [] by simp [List.getD_eq_getElem?_getD, List.getElem?_take, this]]; exact h.2.1
  · show p ((l.take i).getD j []) = false
    have := h.1
    rw [show (l.take i).getD j [] = l.getD j [] by simp [List.getD_eq_getElem?_getD, List.getElem?_take, Nat.lt_trans hj this]]; exact h.2.2 j hj
theorem ZqP {l : List (List Int)} {p : List Int → Bool} {i : Nat} (hi : i ≤ l.length) (h : noneTo (fun j => p (l.getD j [])) i) : (l.take i).any p = false := by
  refine noneTo.any (d := []) fun j hj => ?_
  have hj : j < i := by rw [List.length_take] at hj; omega
  show p ((l.take i).getD j []) = false
  rw [show (l.take i).getD j [] = l.getD j [] by simp [List.getD_eq_getElem?_getD, List.getElem?_take, hj]]; exact h j hj
theorem Zty {P : Program} {l : List (FuncId × Spec)} {fn : Func} {k : Nat} {s : LSum} (hn : (Zbc (Zao fn)).length = 2) (hk : ZbK (Zar fn 0) = k) (hk1 : (hkl l [(k, s)]).loop (ZbK (Zar fn 1)) = none) (h : ∀ Q x, s Q x → XWP P (.loop (Zar fn 0)) Q x) : Zaz P (hkl l [(k, s)]) (Zao fn) :=
  Zds 2 hn fun i hi s' hs Q x hq => by
    match i, hi with
    | 1, _ => rw [hk1] at hs; cases hs
    | 0, _ =>
      rw [hk] at hs
      have hs' : some s = some s' := by simpa [Zdw, hkl, hkA, Zbn] using hs
      cases hs'
      exact h Q x hq
def stRM (R : List (List D)) (sp : List (List D)) (v : Bool) (i : Int) : X := ⟨mkT 40 [(0, aS 3 R sp), (2, ab v), (8, aS 3 R sp), (9, ai R.length), (10, ai i)], [], [], []⟩
def ZhY (R : List (List D)) (sp : List (List D)) : Vw := fun y K => wB y 2 fun v => wI y 10 fun i => K (stRM R sp v i)
theorem ZjM (R : List (List D)) (sp : List (List D)) : VwOK (ZhY R sp) := fun y K h => by
  unfold ZhY at h
  obtain ⟨v, h⟩ := Zdx h
  obtain ⟨i, h⟩ := Zcc h
  exact ⟨_, h⟩
theorem rRM (R sp : List (List D)) (v : Bool) (i : Int) (N : X → Prop) (E : Exit → X → Prop) : (ZbV Tryz.prog (hkA band bor [(64, sB lab), (153, sB ix4), (102, sB clk), (155, sOf), (154, sCoR)] []) Tryz.f105 0 [] [0, 2, 8, 9, 10] [] (ZhY R sp) (ZhY R sp) N E (stRM R sp v i)) = (bif decide (i < @Nat.cast Int _ (List.length R)) then bif decide (0 ≤ i) && decide (i < @Nat.cast Int _ (List.length R)) then bif isJ [IntKind.i64, IntKind.i64, IntKind.i64] (List.drop (0) (List.getD R (Int.toNat i) [])) then bif !lab (hdJ (List.drop (0) (List.getD R (Int.toNat i) []))) then stRM R sp false i = stRM R sp false i ∧ E Exit.ret (stRM R sp false i) else bif !ix4 (hdJ (List.tail (List.drop (0) (List.getD R (Int.toNat i) [])))) then stRM R sp false i = stRM R sp false i ∧ E Exit.ret (stRM R sp false i) else bif !clk (hdJ (List.tail (List.tail (List.drop (0) (List.getD R (Int.toNat i) []))))) then stRM R sp false i = stRM R sp false i ∧ E Exit.ret (stRM R sp false i) else bif true && (decide (0 ≤ i) && decide (i ≤ @Nat.cast Int _ (List.length R + List.length sp))) then bif okZ (3) (cut (R ++ sp) (0) (Int.toNat i - 0)) then bif List.any (toZ (cut (R ++ sp) (0) (Int.toNat i - 0))) (Zco (hdJ (List.drop (0) (List.getD R (Int.toNat i) []))) (hdJ (List.tail (List.drop (0) (List.getD R (Int.toNat i) [])))) (hdJ (List.tail (List.tail (List.drop (0) (List.getD R (Int.toNat i) [])))))) then stRM R sp false i = stRM R sp false i ∧ E Exit.ret (stRM R sp false i) else stRM R sp v (IntKind.wrap IntKind.i64 (i + 1)) = stRM R sp v (IntKind.wrap IntKind.i64 (i + 1)) ∧ N (stRM R sp v (IntKind.wrap IntKind.i64 (i + 1))) else False else False else False else False else stRM R sp v i = stRM R sp v i ∧ E (Exit.exit (0)) (stRM R sp v i)) := by kernel_rfl
def fRM (l : List (List Int)) (sp : List (List D)) : LSum := Zdv [0, 2, 8, 9, 10] [] (fun i => stRM (mZ l) sp false i) (fun i => stRM (mZ l) sp false i) l.length (badR l) .ret (.exit 0)
theorem kRM {l : List (List Int)} {sp : List (List D)} (hw : wid 3 l) (hn : l.length ≤ 9223372036854775807) (Q : Exit → X → Prop) (x : X) (h : fRM l sp Q x) : XWP Tryz.prog (.loop (Zar Tryz.f105 0)) Q x := by
  refine Zcb (H := hkA band bor [(64, sB lab), (153, sB ix4), (102, sB clk), (155, sOf), (154, sCoR)] []) (sw := []) (V := ZhY (mZ l) sp) (VE := ZhY (mZ l) sp) (ZaL (.cons oLab (.cons oIdx (.cons oClk (.cons oOf (.cons oCoR .nil)))))) mixed (Zai rfl) (ZjM (mZ l) sp) (ZjM (mZ l) sp) _ _ _ _ _ _ (fun i hl N E h1 h2 => ?_) (fun N E h1 => ?_) Q x h
  · rw [rRM]
    have wi : IntKind.wrap .i64 ((i : Int) + 1) = ((i + 1 : Nat) : Int) := Zan (n := 1) (by omega)
    have hj1 : isJ [IntKind.i64, IntKind.i64, IntKind.i64] ((mZ l).getD i []) = true := Zav (j := 0) (n := 3) hw hl (by omega)
    have hc : cut (mZ l ++ sp) 0 i = mZ (l.take i) := by rw [Zqp _ _ (by rw [Zaf]; omega), ZsS]
    have ho : okZ 3 (mZ (l.take i)) = true := ZjZ (Zqz hw i) (by simp; omega)
    have hb : decide ((i : Int) ≤ ((l.length + sp.length : Nat) : Int)) = true := by simp; omega
    simp only [Zaf, Int.ofNat_lt, hl, decide_true, cond_true, Int.natCast_nonneg, Bool.and_self, Int.toNat_natCast, ZaM, ZaO, hj1, List.drop_zero, ZaJ, true_and, wi, Nat.sub_zero, hc, ho, hb, Zdz]
    unfold badR ok1 at h1 h2
    revert h1 h2
    generalize lab ((l.getD i []).getD 0 0) = p1
    generalize ix4 ((l.getD i []).getD 1 0) = p2
    generalize clk ((l.getD i []).getD 2 0) = p3
    generalize (l.take i).any (Zco ((l.getD i []).getD 0 0) ((l.getD i []).getD 1 0) ((l.getD i []).getD 2 0)) = p4
    cases p1 <;> cases p2 <;> cases p3 <;> cases p4 <;> intro h1 h2 <;> first | exact h1 rfl | exact h2 rfl
  · rw [rRM]
    simp only [Zaf, Int.ofNat_lt, Nat.lt_irrefl, decide_false, cond_false, true_and]
    exact h1
theorem eRM (l : List (List Int)) (sp : List (List D)) (K : DV → Prop) : (askL Tryz.prog [] [(4, fRM l sp)] Tryz.f105 [dS 3 (mZ l) sp] K) = (bif decide (@Nat.cast Int _ (List.length (mZ l)) > 16) then K (DV.c (D.v (Value.bool false))) else stRM (mZ l) sp false (0) = stRM (mZ l) sp false (0) ∧ (∀ (i : Nat), firstAt (badR l) (List.length l) i → K (DV.c (D.v (Value.bool false)))) ∧ (noneTo (badR l) (List.length l) → K (DV.c (D.v (Value.bool true))))) := by kernel_rfl
def sRM : Spec := fun ds Q => match ds with | [.c (.s 0 3 R sp)] => cond (okZ 3 R) (Q (B (rmay (toZ R)))) False | _ => False
theorem oRM : Zad Tryz.prog 105 sRM := o_of Tryz.func105 (by kernel_rfl) rfl fun ds Q h => by
  unfold sRM at h; split at h
  · rename_i R sp
    obtain ⟨h1, h2⟩ := Zag h
    obtain ⟨e1, w1, n1⟩ := Zah h1
    rw [e1]
    rw [← Zal R] at n1
    generalize toZ R = l at *
    refine ⟨_, ZaC (l := []) (m := [(4, fRM l sp)]) .nil mixed (Za7 rfl (by kernel_rfl) (kRM w1 n1)) Tryz.func105 rfl rfl rfl ?_, rfl, rfl, h2⟩
    rw [eRM]
    have hg : decide (((mZ l).length : Int) > 16) = !decide (l.length ≤ 16) := by rw [Zaf]; by_cases h : l.length ≤ 16 <;> simp [h] <;> omega
    rw [hg]
    cases hd : decide (l.length ≤ 16) with
    | false => simp [rmay, hd]
    | true =>
      simp only [Bool.not_true, cond_false]
      refine ⟨by trivial, fun i hi => ?_, fun hn => ?_⟩
      · rw [rmay, hi.b]; simp
      · rw [rmay, hn.b, hd]; rfl
  · exact h.elim
def stQM (R : List (List D)) (sp : List (List D)) (v : Bool) (i : Int) : X := ⟨mkT 64 [(0, aS 3 R sp), (2, ab v), (3, ai i)], [], [], []⟩
def Zhp (R : List (List D)) (sp : List (List D)) : Vw := fun y K => wB y 2 fun v => wI y 3 fun i => K (stQM R sp v i)
theorem ZjB (R : List (List D)) (sp : List (List D)) : VwOK (Zhp R sp) := fun y K h => by
  unfold Zhp at h
  obtain ⟨v, h⟩ := Zdx h
  obtain ⟨i, h⟩ := Zcc h
  exact ⟨_, h⟩
def stQN (R : List (List D)) (sp : List (List D)) (i : Int) (v : Bool) (j : Int) : X := ⟨mkT 64 [(0, aS 3 R sp), (2, ab v), (3, ai i), (4, ai j)], [], [], []⟩
def Zhm (R : List (List D)) (sp : List (List D)) (i : Int) : Vw := fun y K => wB y 2 fun v => wI y 4 fun j => K (stQN R sp i v j)
theorem Zi7 (R : List (List D)) (sp : List (List D)) (i : Int) : VwOK (Zhm R sp i) := fun y K h => by
  unfold Zhm at h
  obtain ⟨v, h⟩ := Zdx h
  obtain ⟨j, h⟩ := Zcc h
  exact ⟨_, h⟩
theorem rQN (R sp : List (List D)) (i : Int) (v : Bool) (j : Int) (N : X → Prop) (E : Exit → X → Prop) : (ZbV Tryz.prog (hkA band bor [] []) Tryz.f122 1 [] [0, 2, 3, 4] [] (Zhm R sp i) (Zhm R sp i) N E (stQN R sp i v j)) = (bif decide (j < i) then bif decide (0 ≤ j) && decide (j < @Nat.cast Int _ (List.length R)) then bif isJ [IntKind.i64] (List.drop (0) (List.getD R (Int.toNat j) [])) then bif decide (0 ≤ i) && decide (i < @Nat.cast Int _ (List.length R)) then bif isJ [IntKind.i64] (List.drop (0) (List.getD R (Int.toNat i) [])) then bif hdJ (List.drop (0) (List.getD R (Int.toNat j) [])) == hdJ (List.drop (0) (List.getD R (Int.toNat i) [])) then bif decide (0 ≤ j) && decide (j < @Nat.cast Int _ (List.length R)) then bif isJ [IntKind.i64] (List.drop (1) (List.getD R (Int.toNat j) [])) then bif decide (0 ≤ i) && decide (i < @Nat.cast Int _ (List.length R)) then bif isJ [IntKind.i64] (List.drop (1) (List.getD R (Int.toNat i) [])) then bif hdJ (List.drop (1) (List.getD R (Int.toNat j) [])) == hdJ (List.drop (1) (List.getD R (Int.toNat i) [])) then stQN R sp i false j = stQN R sp i false j ∧ E Exit.ret (stQN R sp i false j) else stQN R sp i v (IntKind.wrap IntKind.i64 (j + 1)) = stQN R sp i v (IntKind.wrap IntKind.i64 (j + 1)) ∧ N (stQN R sp i v (IntKind.wrap IntKind.i64 (j + 1))) else False else False else False else False else stQN R sp i v (IntKind.wrap IntKind.i64 (j + 1)) = stQN R sp i v (IntKind.wrap IntKind.i64 (j + 1)) ∧ N (stQN R sp i v (IntKind.wrap IntKind.i64 (j + 1))) else False else False else False else False else stQN R sp i v j = stQN R sp i v j ∧ E (Exit.exit (2)) (stQN R sp i v j)) := by kernel_rfl
def fQN (l : List (List Int)) (sp : List (List D)) (i : Nat) : LSum := fun Q x => cond (decide (i < l.length)) (Zdv [0, 2, 3, 4] [] (fun j => stQN (mZ l) sp i false j) (fun j => stQN (mZ l) sp i false j) i (fun j => Zco ((l.getD i []).getD 0 0) ((l.getD i []).getD 1 0) ((l.getD i []).getD 2 0) (l.getD j [])) .ret (.exit 2) Q x) False
theorem kQN {l : List (List Int)} {sp : List (List D)} (hw : wid 3 l) (hn : l.length ≤ 9223372036854775807) {i : Nat} (Q : Exit → X → Prop) (x : X) (h : fQN l sp i Q x) : XWP Tryz.prog (.loop (Zar Tryz.f122 1)) Q x := by
  obtain ⟨hi, h⟩ := Zag h
  have hi := of_decide_eq_true hi
  refine Zcb (H := hkA band bor [] []) (sw := []) (V := Zhm (mZ l) sp i) (VE := Zhm (mZ l) sp i) (ZaL .nil) mixed (Zai rfl) (Zi7 (mZ l) sp i) (Zi7 (mZ l) sp i) _ _ _ _ _ _ (fun j hl N E h1 h2 => ?_) (fun N E h1 => ?_) Q x h
  · rw [rQN]
    have wi : IntKind.wrap .i64 ((j : Int) + 1) = ((j + 1 : Nat) : Int) := Zan (n := 1) (by omega)
    have hjl : j < l.length := by omega
    have a1 : isJ [IntKind.i64] ((mZ l).getD i []) = true := Zav (j := 0) (n := 1) hw hi (by omega)
    have a2 : isJ [IntKind.i64] (List.drop 1 ((mZ l).getD i [])) = true := Zav (j := 1) (n := 1) hw hi (by omega)
    have b1 : isJ [IntKind.i64] ((mZ l).getD j []) = true := Zav (j := 0) (n := 1) hw hjl (by omega)
    have b2 : isJ [IntKind.i64] (List.drop 1 ((mZ l).getD j [])) = true := Zav (j := 1) (n := 1) hw hjl (by omega)
    simp only [Zaf, Int.ofNat_lt, hl, hi, hjl, decide_true, cond_true, Int.natCast_nonneg, Bool.and_self, Int.toNat_natCast, a1, a2, b1, b2, List.drop_zero, ZaJ, ZbL, true_and, wi]
    unfold Zco at h1 h2
    revert h1 h2
    generalize ((l.getD j []).getD 0 0 == (l.getD i []).getD 0 0) = p1
    generalize ((l.getD j []).getD 1 0 == (l.getD i []).getD 1 0) = p2
    cases p1 <;> cases p2 <;> intro h1 h2 <;> first | exact h1 rfl | exact h2 rfl
  · rw [rQN]
    simp only [Zaf, Int.ofNat_lt, Nat.lt_irrefl, decide_false, cond_false, true_and]
    exact h1
theorem rQM (l : List (List Int)) (sp : List (List D)) (n : Nat) (N : X → Prop) (E : Exit → X → Prop) : (ZbV Tryz.prog (hkA band bor [(166, sWN), (69, sB clk)] [(7, fQN l sp n)]) Tryz.f122 0 [] [0, 2, 3] [] (Zhp (mZ l) sp) (Zhp (mZ l) sp) N E (stQM (mZ l) sp false (n : Int))) = (bif decide (@Nat.cast Int _ n < @Nat.cast Int _ (List.length (mZ l))) then bif decide (0 ≤ @Nat.cast Int _ n) && decide (@Nat.cast Int _ n < @Nat.cast Int _ (List.length (mZ l))) then bif isJ [IntKind.i64] (List.drop (0) (List.getD (mZ l) (Int.toNat (@Nat.cast Int _ n)) [])) then bif decide (0 ≤ @Nat.cast Int _ n) && decide (@Nat.cast Int _ n < @Nat.cast Int _ (List.length (mZ l))) then bif isJ [IntKind.i64] (List.drop (1) (List.getD (mZ l) (Int.toNat (@Nat.cast Int _ n)) [])) then bif !wnm (hdJ (List.drop (0) (List.getD (mZ l) (Int.toNat (@Nat.cast Int _ n)) []))) (hdJ (List.drop (1) (List.getD (mZ l) (Int.toNat (@Nat.cast Int _ n)) []))) then stQM (mZ l) sp false (@Nat.cast Int _ n) = stQM (mZ l) sp false (@Nat.cast Int _ n) ∧ E Exit.ret (stQM (mZ l) sp false (@Nat.cast Int _ n)) else bif decide (0 ≤ @Nat.cast Int _ n) && decide (@Nat.cast Int _ n < @Nat.cast Int _ (List.length (mZ l))) then bif isJ [IntKind.i64] (List.drop (2) (List.getD (mZ l) (Int.toNat (@Nat.cast Int _ n)) [])) then bif !clk (hdJ (List.drop (2) (List.getD (mZ l) (Int.toNat (@Nat.cast Int _ n)) []))) then stQM (mZ l) sp false (@Nat.cast Int _ n) = stQM (mZ l) sp false (@Nat.cast Int _ n) ∧ E Exit.ret (stQM (mZ l) sp false (@Nat.cast Int _ n)) else bif decide (n < List.length l) then stQN (mZ l) sp (@Nat.cast Int _ n) false (0) = stQN (mZ l) sp (@Nat.cast Int _ n) false (0) ∧ (∀ (i : Nat), firstAt (fun j => Zco (List.getD (List.getD l n []) (0) (0)) (List.getD (List.getD l n []) (1) (0)) (List.getD (List.getD l n []) (2) (0)) (List.getD l j [])) n i → stQM (mZ l) sp false (@Nat.cast Int _ n) = stQM (mZ l) sp false (@Nat.cast Int _ n) ∧ E Exit.ret (stQM (mZ l) sp false (@Nat.cast Int _ n))) ∧ (noneTo (fun j => Zco (List.getD (List.getD l n []) (0) (0)) (List.getD (List.getD l n []) (1) (0)) (List.getD (List.getD l n []) (2) (0)) (List.getD l j [])) n → stQM (mZ l) sp false (IntKind.wrap IntKind.i64 (@Nat.cast Int _ n + 1)) = stQM (mZ l) sp false (IntKind.wrap IntKind.i64 (@Nat.cast Int _ n + 1)) ∧ N (stQM (mZ l) sp false (IntKind.wrap IntKind.i64 (@Nat.cast Int _ n + 1)))) else False else False else False else False else False else False else False else stQM (mZ l) sp false (@Nat.cast Int _ n) = stQM (mZ l) sp false (@Nat.cast Int _ n) ∧ E (Exit.exit (0)) (stQM (mZ l) sp false (@Nat.cast Int _ n))) := by kernel_rfl
def fQM (l : List (List Int)) (sp : List (List D)) : LSum := Zdv [0, 2, 3] [] (fun i => stQM (mZ l) sp false i) (fun i => stQM (mZ l) sp false i) l.length (badR l) .ret (.exit 0)
theorem ZrO {l : List (List Int)} {sp : List (List D)} {n : Nat} (h : ∀ Q x, fQN l sp n Q x → XWP Tryz.prog (.loop (Zar Tryz.f122 1)) Q x) (L : List (FuncId × Spec)) : Zaz Tryz.prog (hkA band bor L [(7, fQN l sp n)]) (Zar Tryz.f122 0) := fun b hb s hs Q x hq => by
  have e : Zbc (Zar Tryz.f122 0) = [Zar Tryz.f122 1] := by kernel_rfl
  rw [e] at hb
  have hb := List.mem_singleton.1 hb
  subst hb
  have e2 : ZbK (Zar Tryz.f122 1) = 7 := by kernel_rfl
  rw [e2] at hs
  have hs' : some (fQN l sp n) = some s := by simpa [Zdw, hkl, hkA, Zbn] using hs
  cases hs'
  exact h Q x hq
theorem kQM {l : List (List Int)} {sp : List (List D)} (hw : wid 3 l) (hn : l.length ≤ 9223372036854775807) (Q : Exit → X → Prop) (x : X) (h : fQM l sp Q x) : XWP Tryz.prog (.loop (Zar Tryz.f122 0)) Q x := by
  refine Zky (sw := []) (V := Zhp (mZ l) sp) (VE := Zhp (mZ l) sp) mixed (ZjB (mZ l) sp) (ZjB (mZ l) sp) _ _ _ _ _ _ (fun i hl => ⟨_, ZaL (.cons oWN (.cons Zhf .nil)), ZrO (sp := sp) (n := i) (kQN hw hn) _, fun N E h1 h2 => ?_⟩) ⟨_, ZaL (.cons oWN (.cons Zhf .nil)), ZrO (sp := sp) (n := l.length) (kQN hw hn) _, fun N E h1 => ?_⟩ Q x h
  · rw [rQM]
    have wi : IntKind.wrap .i64 ((i : Int) + 1) = ((i + 1 : Nat) : Int) := Zan (n := 1) (by omega)
    have a1 : isJ [IntKind.i64] ((mZ l).getD i []) = true := Zav (j := 0) (n := 1) hw hl (by omega)
    have a2 : isJ [IntKind.i64] (List.drop 1 ((mZ l).getD i [])) = true := Zav (j := 1) (n := 1) hw hl (by omega)
    have a3 : isJ [IntKind.i64] (List.drop 2 ((mZ l).getD i [])) = true := Zav (j := 2) (n := 1) hw hl (by omega)
    simp only [Zaf, Int.ofNat_lt, hl, decide_true, cond_true, Int.natCast_nonneg, Bool.and_self, Int.toNat_natCast, a1, a2, a3, List.drop_zero, ZaJ, ZbL, true_and, wi]
    unfold badR ok1 at h1 h2
    unfold wnm
    have ha : ∀ i', firstAt (fun j => Zco ((l.getD i []).getD 0 0) ((l.getD i []).getD 1 0) ((l.getD i []).getD 2 0) (l.getD j [])) i i' → (l.take i).any (Zco ((l.getD i []).getD 0 0) ((l.getD i []).getD 1 0) ((l.getD i []).getD 2 0)) = true := fun i' hi' => Ztv (by omega) hi'
    have hb : noneTo (fun j => Zco ((l.getD i []).getD 0 0) ((l.getD i []).getD 1 0) ((l.getD i []).getD 2 0) (l.getD j [])) i → (l.take i).any (Zco ((l.getD i []).getD 0 0) ((l.getD i []).getD 1 0) ((l.getD i []).getD 2 0)) = false := fun hi' => ZqP (by omega) hi'
    revert h1 h2
    cases lab ((l.getD i []).getD 0 0) <;> cases ix4 ((l.getD i []).getD 1 0) <;> cases clk ((l.getD i []).getD 2 0) <;> intro h1 h2
    all_goals first | exact h1 rfl | exact ⟨fun i' hi' => h1 (by rw [ha i' hi']; rfl), fun hi' => h2 (by rw [hb hi']; rfl)⟩
  · rw [rQM]
    simp only [Zaf, Int.ofNat_lt, Nat.lt_irrefl, decide_false, cond_false, true_and]
    exact h1
theorem eQM (l : List (List Int)) (sp : List (List D)) (K : DV → Prop) : (askL Tryz.prog [] [(2, fQM l sp)] Tryz.f122 [dS 3 (mZ l) sp] K) = (stQM (mZ l) sp false (0) = stQM (mZ l) sp false (0) ∧ (∀ (i : Nat), firstAt (badR l) (List.length l) i → K (DV.c (D.v (Value.bool false)))) ∧ (noneTo (badR l) (List.length l) → K (DV.c (D.v (Value.bool (decide (@Nat.cast Int _ (List.length (mZ l)) ≤ 16))))))) := by kernel_rfl
theorem oQM : Zad Tryz.prog 122 sRM := o_of Tryz.func122 (by kernel_rfl) rfl fun ds Q h => by
  unfold sRM at h; split at h
  · rename_i R sp
    obtain ⟨h1, h2⟩ := Zag h
    obtain ⟨e1, w1, n1⟩ := Zah h1
    rw [e1]
    rw [← Zal R] at n1
    generalize toZ R = l at *
    refine ⟨_, ZaC (l := []) (m := [(2, fQM l sp)]) .nil mixed (Zty rfl (by kernel_rfl) (by kernel_rfl) (kQM w1 n1)) Tryz.func122 rfl rfl rfl ?_, rfl, rfl, h2⟩
    rw [eQM]
    refine ⟨by trivial, fun i hi => ?_, fun hn => ?_⟩
    · rw [rmay, hi.b]; simp
    · rw [rmay, hn.b, Zaf]; by_cases hl : l.length ≤ 16 <;> simp [hl] <;> omega
  · exact h.elim
end

section
open Go Go.Proofs
def wdv (a b c d : List (List Int)) (r : List Int) : List Int := wrd (selA (r.getD 0 0) a b c d) (r.getD 1 0)
def thv (a b c d : List (List Int)) (r : List Int) : Bool := thr a.length b.length c.length d.length (r.getD 0 0) (r.getD 1 0)
def gets (a b c d l : List (List Int)) : Bool := amay a b c d && (rmay l && l.all (thv a b c d))
def gotW (a b c d l : List (List Int)) : List (List Int) := bif gets a b c d l then l.map (wdv a b c d) else []
def badC (a b c d : List (List Int)) (r : List Int) : Bool := (wdv a b c d r).getD 1 0 != r.getD 2 0
def sWo : Spec := fun ds Q => match ds with | [.c (.p 0 [.s 0 3 R0 p0, .s 0 3 R1 p1, .s 0 3 R2 p2, .s 0 3 R3 p3] 0), .c (.s 0 3 R sp)] => cond (okA R0 R1 R2 R3 && okZ 3 R) (Q (.tup [oS 3 (mZ (gotW (toZ R0) (toZ R1) (toZ R2) (toZ R3) (toZ R))) [], B (gets (toZ R0) (toZ R1) (toZ R2) (toZ R3) (toZ R))])) False | _ => False
def sRT : Spec := fun ds Q => match ds with | [.agg [.s 0 3 R0 p0, .s 0 3 R1 p1, .s 0 3 R2 p2, .s 0 3 R3 p3], .c (.s 0 3 R sp)] => cond (okA R0 R1 R2 R3 && okZ 3 R) (Q (B ((toZ R).all (thv (toZ R0) (toZ R1) (toZ R2) (toZ R3))))) False | _ => False
def stRT (R0 : List (List D)) (p0 : List (List D)) (R1 : List (List D)) (p1 : List (List D)) (R2 : List (List D)) (p2 : List (List D)) (R3 : List (List D)) (p3 : List (List D)) (R : List (List D)) (sp : List (List D)) (v : Bool) (i : Int) : X := ⟨mkT 25 [(1, aS 3 R sp), (2, .c (.rp 3 0 4 0 0)), (4, ab v), (5, ai i)], [(3, .bx 0 4 [.d (.s 0 3 R0 p0), .d (.s 0 3 R1 p1), .d (.s 0 3 R2 p2), .d (.s 0 3 R3 p3)])], [], []⟩
def Zh5 (R0 : List (List D)) (p0 : List (List D)) (R1 : List (List D)) (p1 : List (List D)) (R2 : List (List D)) (p2 : List (List D)) (R3 : List (List D)) (p3 : List (List D)) (R : List (List D)) (sp : List (List D)) : Vw := fun y K => wB y 4 fun v => wI y 5 fun i => K (stRT R0 p0 R1 p1 R2 p2 R3 p3 R sp v i)
theorem Zjg (R0 : List (List D)) (p0 : List (List D)) (R1 : List (List D)) (p1 : List (List D)) (R2 : List (List D)) (p2 : List (List D)) (R3 : List (List D)) (p3 : List (List D)) (R : List (List D)) (sp : List (List D)) : VwOK (Zh5 R0 p0 R1 p1 R2 p2 R3 p3 R sp) := fun y K h => by
  unfold Zh5 at h
  obtain ⟨v, h⟩ := Zdx h
  obtain ⟨i, h⟩ := Zcc h
  exact ⟨_, h⟩
theorem rRT (R0 : List (List D)) (p0 : List (List D)) (R1 : List (List D)) (p1 : List (List D)) (R2 : List (List D)) (p2 : List (List D)) (R3 : List (List D)) (p3 : List (List D)) (R : List (List D)) (sp : List (List D)) (v : Bool) (i : Int) (N : X → Prop) (E : Exit → X → Prop) : (ZcR Tryz.prog (hkA band bor [(164, Zfm)] []) Tryz.f165 0 [] [1, 2, 4, 5] [3] (Zh5 R0 p0 R1 p1 R2 p2 R3 p3 R sp) (fun _ => Zh5 R0 p0 R1 p1 R2 p2 R3 p3 R sp) N E (stRT R0 p0 R1 p1 R2 p2 R3 p3 R sp v i)) = (bif decide (i < @Nat.cast Int _ (List.length R)) then bif decide (0 ≤ i) && decide (i < @Nat.cast Int _ (List.length R)) then bif isJ [IntKind.i64] (List.drop (0) (List.getD R (Int.toNat i) [])) then bif decide (0 ≤ i) && decide (i < @Nat.cast Int _ (List.length R)) then bif isJ [IntKind.i64] (List.drop (1) (List.getD R (Int.toNat i) [])) then bif !thr (List.length R0) (List.length R1) (List.length R2) (List.length R3) (hdJ (List.drop (0) (List.getD R (Int.toNat i) []))) (hdJ (List.drop (1) (List.getD R (Int.toNat i) []))) then stRT R0 p0 R1 p1 R2 p2 R3 p3 R sp false i = stRT R0 p0 R1 p1 R2 p2 R3 p3 R sp false i ∧ E Exit.ret (stRT R0 p0 R1 p1 R2 p2 R3 p3 R sp false i) else stRT R0 p0 R1 p1 R2 p2 R3 p3 R sp v (IntKind.wrap IntKind.i64 (i + 1)) = stRT R0 p0 R1 p1 R2 p2 R3 p3 R sp v (IntKind.wrap IntKind.i64 (i + 1)) ∧ N (stRT R0 p0 R1 p1 R2 p2 R3 p3 R sp v (IntKind.wrap IntKind.i64 (i + 1))) else False else False else False else False else stRT R0 p0 R1 p1 R2 p2 R3 p3 R sp v i = stRT R0 p0 R1 p1 R2 p2 R3 p3 R sp v i ∧ E (Exit.exit (0)) (stRT R0 p0 R1 p1 R2 p2 R3 p3 R sp v i)) := by kernel_rfl
end

section
open Go Go.Proofs
def fRT (a b c d l : List (List Int)) (sp p0 p1 p2 p3 : List (List D)) : LSum := Zdv [1, 2, 4, 5] [3] (fun i => stRT (mZ a) p0 (mZ b) p1 (mZ c) p2 (mZ d) p3 (mZ l) sp false i) (fun i => stRT (mZ a) p0 (mZ b) p1 (mZ c) p2 (mZ d) p3 (mZ l) sp false i) (l.length) (fun i => !thv a b c d (l.getD i [])) .ret (.exit 0)
theorem kRT {a b c d l : List (List Int)} {sp p0 p1 p2 p3 : List (List D)} (ha : wid 3 a) (hb : wid 3 b) (hc : wid 3 c) (hd : wid 3 d) (hw : wid 3 l) (hn : l.length ≤ 9223372036854775807) (Q : Exit → X → Prop) (x : X) (h : fRT a b c d l sp p0 p1 p2 p3 Q x) : XWP Tryz.prog (.loop (Zar Tryz.f165 0)) Q x := by
  refine Zcm (sw := []) (V := Zh5 (mZ a) p0 (mZ b) p1 (mZ c) p2 (mZ d) p3 (mZ l) sp) (VE := fun _ => Zh5 (mZ a) p0 (mZ b) p1 (mZ c) p2 (mZ d) p3 (mZ l) sp) mixed (Zjg (mZ a) p0 (mZ b) p1 (mZ c) p2 (mZ d) p3 (mZ l) sp) (fun _ => Zjg (mZ a) p0 (mZ b) p1 (mZ c) p2 (mZ d) p3 (mZ l) sp) _ _ _ _ _ _ (fun i hl => ⟨hkA band bor [(164, Zfm)] [], ZaL (.cons Zjq .nil), Zai rfl, fun N E h1 h2 => ?_⟩) ⟨hkA band bor [(164, Zfm)] [], ZaL (.cons Zjq .nil), Zai rfl, fun N E h1 => ?_⟩ Q x h
  · rw [rRT]
    have wi : IntKind.wrap .i64 ((i : Int) + 1) = ((i + 1 : Nat) : Int) := Zan (n := 1) (by omega)
    have a0 : isJ [IntKind.i64] ((mZ l).getD i []) = true := Zav (j := 0) (n := 1) hw hl (by omega)
    have a1 : isJ [IntKind.i64] (List.drop 1 ((mZ l).getD i [])) = true := Zav (j := 1) (n := 1) hw hl (by omega)
    have a2 : isJ [IntKind.i64] (List.drop 2 ((mZ l).getD i [])) = true := Zav (j := 2) (n := 1) hw hl (by omega)
    have a3 : isJ [IntKind.i64, IntKind.i64, IntKind.i64] ((mZ l).getD i []) = true := Zav (j := 0) (n := 3) hw hl (by omega)
    simp only [Zaf, Int.ofNat_lt, hl, decide_true, cond_true, Int.natCast_nonneg, Bool.and_self, Int.toNat_natCast, a0, a1, a2, a3, List.drop_zero, ZaJ, ZbL, ZaM, ZaO, true_and, wi]
    unfold thv at h1 h2
    cases ht : thr a.length b.length c.length d.length ((l.getD i []).getD 0 0) ((l.getD i []).getD 1 0) with
    | false => exact h1 (by rw [ht]; rfl)
    | true => exact h2 (by rw [ht]; rfl)
  · rw [rRT]
    simp only [Zaf, Int.ofNat_lt, Nat.lt_irrefl, decide_false, cond_false, true_and]
    exact h1
theorem s4 {R0 R1 R2 R3 R : List (List D)} (h : (okA R0 R1 R2 R3 && okZ 3 R) = true) : (R0 = mZ (toZ R0) ∧ wid 3 (toZ R0) ∧ R1 = mZ (toZ R1) ∧ wid 3 (toZ R1) ∧ R2 = mZ (toZ R2) ∧ wid 3 (toZ R2) ∧ R3 = mZ (toZ R3) ∧ wid 3 (toZ R3)) ∧ R = mZ (toZ R) ∧ wid 3 (toZ R) ∧ (toZ R).length ≤ 9223372036854775807 := by
  rw [Bool.and_eq_true] at h
  obtain ⟨h1, h2⟩ := h
  obtain ⟨q0, q1, q2, q3⟩ := Zb2 h1
  obtain ⟨a1, a2, _⟩ := Zah q0
  obtain ⟨b1, b2, _⟩ := Zah q1
  obtain ⟨c1, c2, _⟩ := Zah q2
  obtain ⟨d1, d2, _⟩ := Zah q3
  obtain ⟨e1, e2, e3⟩ := Zah h2
  exact ⟨⟨a1, a2, b1, b2, c1, c2, d1, d2⟩, e1, e2, by rw [Zal]; exact e3⟩
theorem eRT (a b c d l : List (List Int)) (sp p0 p1 p2 p3 : List (List D))  (K : DV → Prop) : (askL Tryz.prog [] [(2, fRT a b c d l sp p0 p1 p2 p3)] Tryz.f165 [dA (mZ a) p0 (mZ b) p1 (mZ c) p2 (mZ d) p3, dS 3 (mZ l) sp] K) = (stRT (mZ a) p0 (mZ b) p1 (mZ c) p2 (mZ d) p3 (mZ l) sp false (0) = stRT (mZ a) p0 (mZ b) p1 (mZ c) p2 (mZ d) p3 (mZ l) sp false (0) ∧ (∀ (i : Nat), firstAt (fun i => !thv a b c d (List.getD l i [])) (List.length l) i → K (DV.c (D.v (Value.bool false)))) ∧ (noneTo (fun i => !thv a b c d (List.getD l i [])) (List.length l) → K (DV.c (D.v (Value.bool true))))) := by kernel_rfl
end

section
open Go Go.Proofs
def cv (a b c d l : List (List Int)) : Bool := gets a b c d l && l.any (badC a b c d)
theorem Ztq {l : List (List Int)} {p : List Int → Bool} (h : l.any (fun r => !p r) = true) : l.all p = false := by
  rw [List.all_eq_not_any_not, h]; rfl
theorem Zrm {l : List (List Int)} {p : List Int → Bool} (h : l.any (fun r => !p r) = false) : l.all p = true := by
  rw [List.all_eq_not_any_not, h]; rfl
theorem oRT : Zad Tryz.prog 165 sRT := o_of Tryz.func165 (by kernel_rfl) rfl fun ds Q h => by
  unfold sRT at h; split at h
  · rename_i R0 p0 R1 p1 R2 p2 R3 p3 R sp
    obtain ⟨h1, h2⟩ := Zag h
    have hA := h1
    rw [Bool.and_eq_true] at hA
    obtain ⟨⟨a1, a2, b1, b2, c1, c2, d1, d2⟩, e1, e2, e3⟩ := s4 h1
    have hA' := hA
    rw [a1, b1, c1, d1, e1] at hA'
    rw [a1, b1, c1, d1, e1]
    generalize toZ R0 = a at *
    generalize toZ R1 = b at *
    generalize toZ R2 = c at *
    generalize toZ R3 = d at *
    generalize toZ R = l at *
    refine ⟨_, ZaC (l := []) (m := [(2, fRT a b c d l sp p0 p1 p2 p3)]) .nil mixed (Za7 rfl (by kernel_rfl) (kRT a2 b2 c2 d2 e2 e3)) Tryz.func165 rfl rfl rfl ?_, rfl, rfl, h2⟩
    rw [eRT]
    refine ⟨by trivial, fun i hi => ?_, fun hn => ?_⟩
    · have := hi.any (l := l) (d := []) (p := fun r => !thv a b c d r)
      rw [Ztq this]
    · have := hn.any (l := l) (d := []) (p := fun r => !thv a b c d r)
      rw [Zrm this]
  · exact h.elim
end

section
open Go Go.Proofs
def plc (x y : Int) : Int := IntKind.wrap .i64 (IntKind.wrap .i64 (4 * x) + y)
theorem ePl (x y : Int) (K : DV → Prop) : (ask Tryz.prog [] Tryz.f141 [I x, I y] K) = (K (DV.c (D.v (Value.int IntKind.i64 (IntKind.wrap IntKind.i64 (IntKind.wrap IntKind.i64 (4 * x) + y)))))) := by kernel_rfl
def sPl : Spec := fun ds Q => match ds with | [.c (.v (.int .i64 x)), .c (.v (.int .i64 y))] => Q (I (plc x y)) | _ => False
theorem oPl : Zad Tryz.prog 141 sPl := o_of Tryz.func141 (by kernel_rfl) rfl fun ds Q h => by
  unfold sPl at h; split at h
  · rename_i x y
    refine ⟨_, Zak .nil mixed Tryz.func141 rfl rfl rfl ?_, rfl, rfl, h⟩
    rw [ePl]; rfl
  · exact h.elim
def ior (a b : Int) : Int := bif a != 0 then a else b
theorem eOr (a b : Int) (K : DV → Prop) : (ask Tryz.prog [] Tryz.f180 [dS 1 [[vI a], [vI b]] []] K) = (bif a != 0 then K (DV.c (D.v (Value.int IntKind.i64 a))) else bif b != 0 then K (DV.c (D.v (Value.int IntKind.i64 b))) else K (DV.c (D.v (Value.int IntKind.i64 (0))))) := by kernel_rfl
def sOr : Spec := fun ds Q => match ds with | [.c (.s 0 1 [[.v (.int .i64 a)], [.v (.int .i64 b)]] [])] => Q (I (ior a b)) | _ => False
theorem oOr : Zad Tryz.prog 180 sOr := o_of Tryz.func180 (by kernel_rfl) rfl fun ds Q h => by
  unfold sOr at h; split at h
  · rename_i a b
    refine ⟨_, Zak .nil mixed Tryz.func180 rfl rfl rfl ?_, rfl, rfl, h⟩
    rw [eOr]; unfold ior
    cases ha : (a != 0) with
    | true => rfl
    | false =>
      by_cases hb : b = 0
      · subst hb; rfl
      · have : (b != 0) = true := by simpa using hb
        rw [this]; rfl
  · exact h.elim
theorem eRow (a b c x y z : Int) (K : DV → Prop) : (ask Tryz.prog [(180, sOr)] Tryz.f139 [.agg [vI a, vI b, vI c], .agg [vI x, vI y, vI z]] K) = (K (DV.c (D.v (Value.int IntKind.i64 (ior (IntKind.wrap IntKind.i64 (a - x)) (IntKind.wrap IntKind.i64 (b - y))))))) := by kernel_rfl
def rw3 (r : List Int) (a b : Int) : Int := ior (IntKind.wrap .i64 (r.getD 0 0 - a)) (IntKind.wrap .i64 (r.getD 1 0 - b))
def sRow : Spec := fun ds Q => match ds with | [.agg [.v (.int .i64 a), .v (.int .i64 b), .v (.int .i64 c)], .agg [.v (.int .i64 x), .v (.int .i64 y), .v (.int .i64 z)]] => Q (I (rw3 [a, b, c] x y)) | _ => False
theorem oRow : Zad Tryz.prog 139 sRow := o_of Tryz.func139 (by kernel_rfl) rfl fun ds Q h => by
  unfold sRow at h; split at h
  · rename_i a b c x y z
    refine ⟨_, Zak (.cons oOr .nil) mixed Tryz.func139 rfl rfl rfl ?_, rfl, rfl, h⟩
    rw [eRow]; rfl
  · exact h.elim
def bsR (p : Nat → Bool) : Nat → Nat → Nat → Nat
  | 0, i, _ => i
  | f + 1, i, j => bif decide (i < j) then (bif p ((i + j) / 2) then bsR p f ((i + j) / 2 + 1) j else bsR p f i ((i + j) / 2)) else i
theorem ZfY (p : Nat → Bool) : ∀ (f g i j : Nat), j - i ≤ f → j - i ≤ g → bsR p f i j = bsR p g i j
  | 0, 0, i, j, _, _ => rfl
  | 0, g + 1, i, j, h, _ => by
    have : ¬ (i < j) := by omega
    simp [bsR, this]
  | f + 1, 0, i, j, _, h => by
    have : ¬ (i < j) := by omega
    simp [bsR, this]
  | f + 1, g + 1, i, j, h1, h2 => by
    by_cases hij : i < j
    · simp only [bsR, hij, decide_true, cond_true]
      rw [ZfY p f g ((i + j) / 2 + 1) j (by omega) (by omega), ZfY p f g i ((i + j) / 2) (by omega) (by omega)]
    · simp [bsR, hij]
def bsAt (p : Nat → Bool) (n : Nat) : Nat := bsR p n 0 n
theorem Zol (p : Nat → Bool) : ∀ (f i j : Nat), i ≤ j → bsR p f i j ≤ j
  | 0, i, j, h => h
  | f + 1, i, j, h => by
    by_cases hij : i < j
    · simp only [bsR, hij, decide_true, cond_true]
      cases p ((i + j) / 2) with
      | true => exact Zol p f _ _ (by omega)
      | false => exact Nat.le_trans (Zol p f _ _ (by omega)) (by omega)
    · simp [bsR, hij]; exact h
theorem Zqe {i j : Nat} (h : i + j ≤ 9223372036854775807) : IntKind.wrap .i64 (Int.fdiv (IntKind.wrap .u64 (IntKind.wrap .i64 ((i : Int) + (j : Int)))) 2) = (((i + j) / 2 : Nat) : Int) := by
  have e1 : IntKind.wrap .i64 ((i : Int) + (j : Int)) = ((i + j : Nat) : Int) := by rw [IntKind.wrap_i64]; omega
  have e2 : IntKind.wrap .u64 ((i + j : Nat) : Int) = ((i + j : Nat) : Int) := by
    have : IntKind.wrap .u64 ((i + j : Nat) : Int) = ((i + j : Nat) : Int) % 18446744073709551616 := rfl
    rw [this]; omega
  rw [e1, e2]
  have e3 : Int.fdiv ((i + j : Nat) : Int) 2 = (((i + j) / 2 : Nat) : Int) := by rw [Int.fdiv_eq_ediv_of_nonneg _ (by omega)]; omega
  rw [e3, IntKind.wrap_i64]; omega
def sBS (R sp : List (List D)) (a b c : Int) (i j : Int) : X := ⟨mkT 49 [(0, aS 3 R sp), (2, .c (.d (.f 139 [] []))), (4, .c (.rp 5 0 3 0 0)), (8, ai R.length), (9, ai i), (10, ai j)], [(5, .bx 0 3 [.d (vI a), .d (vI b), .d (vI c)])], [], []⟩
def vBS (R sp : List (List D)) (a b c : Int) : Vw := fun y K => wI y 9 fun i => wI y 10 fun j => K (sBS R sp a b c i j)
theorem Zr2 (R sp : List (List D)) (a b c : Int) : VwOK (vBS R sp a b c) := fun y K h => by
  unfold vBS at h
  obtain ⟨i, h⟩ := Zcc h
  obtain ⟨j, h⟩ := Zcc h
  exact ⟨_, h⟩
theorem rBS (R sp : List (List D)) (a b c : Int) (i j : Int) (N : X → Prop) (E : Exit → X → Prop) : (ZbV Tryz.prog (hkA band bor [(139, sRow)] []) Tryz.f138 0 [] [0, 2, 4, 8, 9, 10] [5] (vBS R sp a b c) (vBS R sp a b c) N E (sBS R sp a b c i j)) = (bif decide (i < j) then bif decide (0 ≤ IntKind.wrap IntKind.i64 (Int.fdiv (IntKind.wrap IntKind.u64 (IntKind.wrap IntKind.i64 (i + j))) (2))) && decide (IntKind.wrap IntKind.i64 (Int.fdiv (IntKind.wrap IntKind.u64 (IntKind.wrap IntKind.i64 (i + j))) (2)) < @Nat.cast Int _ (List.length R)) then bif isJ [IntKind.i64, IntKind.i64, IntKind.i64] (List.drop (0) (List.getD R (Int.toNat (IntKind.wrap IntKind.i64 (Int.fdiv (IntKind.wrap IntKind.u64 (IntKind.wrap IntKind.i64 (i + j))) (2)))) [])) then bif decide (rw3 [hdJ (List.drop (0) (List.getD R (Int.toNat (IntKind.wrap IntKind.i64 (Int.fdiv (IntKind.wrap IntKind.u64 (IntKind.wrap IntKind.i64 (i + j))) (2)))) [])), hdJ (List.tail (List.drop (0) (List.getD R (Int.toNat (IntKind.wrap IntKind.i64 (Int.fdiv (IntKind.wrap IntKind.u64 (IntKind.wrap IntKind.i64 (i + j))) (2)))) []))), hdJ (List.tail (List.tail (List.drop (0) (List.getD R (Int.toNat (IntKind.wrap IntKind.i64 (Int.fdiv (IntKind.wrap IntKind.u64 (IntKind.wrap IntKind.i64 (i + j))) (2)))) []))))] a b < 0) then sBS R sp a b c (IntKind.wrap IntKind.i64 (IntKind.wrap IntKind.i64 (Int.fdiv (IntKind.wrap IntKind.u64 (IntKind.wrap IntKind.i64 (i + j))) (2)) + 1)) j = sBS R sp a b c (IntKind.wrap IntKind.i64 (IntKind.wrap IntKind.i64 (Int.fdiv (IntKind.wrap IntKind.u64 (IntKind.wrap IntKind.i64 (i + j))) (2)) + 1)) j ∧ N (sBS R sp a b c (IntKind.wrap IntKind.i64 (IntKind.wrap IntKind.i64 (Int.fdiv (IntKind.wrap IntKind.u64 (IntKind.wrap IntKind.i64 (i + j))) (2)) + 1)) j) else sBS R sp a b c i (IntKind.wrap IntKind.i64 (Int.fdiv (IntKind.wrap IntKind.u64 (IntKind.wrap IntKind.i64 (i + j))) (2))) = sBS R sp a b c i (IntKind.wrap IntKind.i64 (Int.fdiv (IntKind.wrap IntKind.u64 (IntKind.wrap IntKind.i64 (i + j))) (2))) ∧ N (sBS R sp a b c i (IntKind.wrap IntKind.i64 (Int.fdiv (IntKind.wrap IntKind.u64 (IntKind.wrap IntKind.i64 (i + j))) (2)))) else False else False else sBS R sp a b c i j = sBS R sp a b c i j ∧ E (Exit.exit (0)) (sBS R sp a b c i j)) := by kernel_rfl
def ltW (l : List (List Int)) (a b : Int) (h : Nat) : Bool := decide (rw3 (l.getD h []) a b < 0)
def fBS (l : List (List Int)) (sp : List (List D)) (a b c : Int) : LSum := fun Q x => x.arr [0, 2, 4, 8, 9, 10] [5] = sBS (mZ l) sp a b c 0 (mZ l).length ∧ ∀ j, Q (.exit 0) (sBS (mZ l) sp a b c (bsAt (ltW l a b) l.length : Nat) j)
theorem kBS {l : List (List Int)} {sp : List (List D)} {a b c : Int} (hw : wid 3 l) (hn : 2 * l.length ≤ 9223372036854775807) (Q : Exit → X → Prop) (x : X) (h : fBS l sp a b c Q x) : XWP Tryz.prog (.loop (Zar Tryz.f138 0)) Q x := by
  obtain ⟨h1, h2⟩ := h
  refine Zhx (ι := Nat × Nat) (H := hkA band bor [(139, sRow)] []) [] (ZaL (.cons oRow .nil)) mixed (Zai rfl) (fun p => sBS (mZ l) sp a b c p.1 p.2) (fun p => p.1 ≤ p.2 ∧ p.2 ≤ l.length ∧ bsR (ltW l a b) (p.2 - p.1) p.1 p.2 = bsAt (ltW l a b) l.length) (fun p => p.2 - p.1) (0, l.length) (vBS (mZ l) sp a b c) (vBS (mZ l) sp a b c) (Zr2 _ _ _ _ _) (Zr2 _ _ _ _ _) (fun p hp => ?_) ⟨Nat.zero_le _, Nat.le_refl _, rfl⟩ (by rw [Zaf] at h1; exact h1)
  obtain ⟨i, j⟩ := p
  obtain ⟨q1, q2, q3⟩ := hp
  simp only at q1 q2 q3 ⊢
  rw [rBS]
  by_cases hij : i < j
  · have hmw := Zqe (i := i) (j := j) (by omega)
    have hml : (i + j) / 2 < l.length := by omega
    have hj1 : isJ [IntKind.i64, IntKind.i64, IntKind.i64] ((mZ l).getD ((i + j) / 2) []) = true := Zav (j := 0) (n := 3) hw hml (by omega)
    have w1 : IntKind.wrap .i64 ((((i + j) / 2 : Nat) : Int) + 1) = (((i + j) / 2 + 1 : Nat) : Int) := Zan (n := 1) (by omega)
    obtain ⟨d, hd⟩ : ∃ d, j - i = d + 1 := ⟨j - i - 1, by omega⟩
    have hp : decide (rw3 [(l.getD ((i + j) / 2) []).getD 0 0, (l.getD ((i + j) / 2) []).getD 1 0, (l.getD ((i + j) / 2) []).getD 2 0] a b < 0) = ltW l a b ((i + j) / 2) := rfl
    simp only [hmw, Zaf, Int.ofNat_lt, hij, hml, decide_true, cond_true, Int.natCast_nonneg, Bool.and_self, Int.toNat_natCast, List.drop_zero, ZaM, ZaO, ZaJ, hj1, w1, true_and, hp]
    rw [hd] at q3
    simp only [bsR, hij, decide_true, cond_true] at q3
    cases hpp : ltW l a b ((i + j) / 2) with
    | true =>
      rw [hpp] at q3
      simp only [cond_true] at q3 ⊢
      exact ⟨((i + j) / 2 + 1, j), by simp; omega, ⟨by simp; omega, q2, by rw [← q3]; exact ZfY _ _ _ _ _ (Nat.le_refl _) (by simp; omega)⟩, rfl⟩
    | false =>
      rw [hpp] at q3
      simp only [cond_false] at q3 ⊢
      exact ⟨(i, (i + j) / 2), by simp; omega, ⟨by simp; omega, by simp; omega, by rw [← q3]; exact ZfY _ _ _ _ _ (Nat.le_refl _) (by simp; omega)⟩, rfl⟩
  · have e : i = j := by omega
    subst e
    have hs : bsAt (ltW l a b) l.length = i := by rw [← q3]; cases (i - i) <;> simp [bsR]
    have h3 := h2 (i : Nat)
    rw [hs] at h3
    have hlt : decide ((i : Int) < (i : Int)) = false := by simp
    rw [hlt]
    exact ⟨rfl, h3⟩
theorem eBS (l : List (List Int)) (sp : List (List D)) (a b c : Int) (K : DV → Prop) : (askL Tryz.prog [(139, sRow)] [(3, fBS l sp a b c)] Tryz.f138 [dS 3 (mZ l) sp, .agg [vI a, vI b, vI c], .c (.f 139 [] [])] K) = (sBS (mZ l) sp a b c (0) (@Nat.cast Int _ (List.length (mZ l))) = sBS (mZ l) sp a b c (0) (@Nat.cast Int _ (List.length (mZ l))) ∧ ∀ (j : Int), bif decide (@Nat.cast Int _ (bsAt (ltW l a b) (List.length l)) < @Nat.cast Int _ (List.length (mZ l))) then bif decide (0 ≤ @Nat.cast Int _ (bsAt (ltW l a b) (List.length l))) && decide (@Nat.cast Int _ (bsAt (ltW l a b) (List.length l)) < @Nat.cast Int _ (List.length (mZ l))) then bif isJ [IntKind.i64, IntKind.i64, IntKind.i64] (List.drop (0) (List.getD (mZ l) (Int.toNat (@Nat.cast Int _ (bsAt (ltW l a b) (List.length l)))) [])) then K (DV.tup [DV.c (D.v (Value.int IntKind.i64 (@Nat.cast Int _ (bsAt (ltW l a b) (List.length l))))), DV.c (D.v (Value.bool (rw3 [hdJ (List.drop (0) (List.getD (mZ l) (Int.toNat (@Nat.cast Int _ (bsAt (ltW l a b) (List.length l)))) [])), hdJ (List.tail (List.drop (0) (List.getD (mZ l) (Int.toNat (@Nat.cast Int _ (bsAt (ltW l a b) (List.length l)))) []))), hdJ (List.tail (List.tail (List.drop (0) (List.getD (mZ l) (Int.toNat (@Nat.cast Int _ (bsAt (ltW l a b) (List.length l)))) []))))] a b == 0)))]) else False else False else K (DV.tup [DV.c (D.v (Value.int IntKind.i64 (@Nat.cast Int _ (bsAt (ltW l a b) (List.length l))))), DV.c (D.v (Value.bool false))])) := by kernel_rfl
theorem Zsl (p : Nat → Bool) (n : Nat) : bsAt p n ≤ n := Zol p n 0 n (Nat.zero_le _)
def isW (l : List (List Int)) (a b : Int) : Bool := bif decide (bsAt (ltW l a b) l.length < l.length) then rw3 (l.getD (bsAt (ltW l a b) l.length) []) a b == 0 else false
def sBSF : Spec := fun ds Q => match ds with | [.c (.s 0 3 R sp), .agg [.v (.int .i64 a), .v (.int .i64 b), .v (.int .i64 c)], .c (.f 139 [] [])] => cond (okZ 3 R && decide (R.length ≤ 4611686018427387903)) (Q (.tup [I (bsAt (ltW (toZ R) a b) (toZ R).length : Nat), B (isW (toZ R) a b)])) False | _ => False
theorem oBSF : Zad Tryz.prog 138 sBSF := o_of Tryz.func138 (by kernel_rfl) rfl fun ds Q h => by
  unfold sBSF at h; split at h
  · rename_i R sp a b c
    obtain ⟨h1, h2⟩ := Zag h
    simp only [Bool.and_eq_true, decide_eq_true_eq] at h1
    obtain ⟨e1, w1, n1⟩ := Zah h1.1
    have n2 := h1.2
    rw [e1] at n2 ⊢
    rw [Zaf] at n2
    generalize toZ R = l at *
    refine ⟨_, ZaC (l := [(139, sRow)]) (m := [(3, fBS l sp a b c)]) (.cons oRow .nil) mixed (Za7 rfl (by kernel_rfl) (kBS w1 (by omega))) Tryz.func138 rfl rfl rfl ?_, rfl, rfl, h2⟩
    rw [eBS]
    refine ⟨rfl, fun j => ?_⟩
    have hle := Zsl (ltW l a b) l.length
    unfold isW
    generalize hat : bsAt (ltW l a b) l.length = at' at *
    by_cases hl : at' < l.length
    · have hj1 : isJ [IntKind.i64, IntKind.i64, IntKind.i64] ((mZ l).getD at' []) = true := Zav (j := 0) (n := 3) w1 hl (by omega)
      have hp : rw3 [(l.getD at' []).getD 0 0, (l.getD at' []).getD 1 0, (l.getD at' []).getD 2 0] a b = rw3 (l.getD at' []) a b := rfl
      simp only [Zaf, Int.ofNat_lt, hl, decide_true, cond_true, Int.natCast_nonneg, Bool.and_self, Int.toNat_natCast, List.drop_zero, ZaM, ZaO, ZaJ, hj1, hp]
    · simp only [Zaf, Int.ofNat_lt, hl, decide_false, cond_false]
  · exact h.elim
end

section
open Go Go.Proofs
def okw (r : List Int) : Bool := bif lab (r.getD 0 0) then bif ix4 (r.getD 1 0) then val8 (r.getD 2 0) else false else false
def Zfd (l : List (List Int)) (i : Nat) : Bool := !okw (l.getD i []) || (decide (0 < i) && decide (rw3 (l.getD (i - 1) []) ((l.getD i []).getD 0 0) ((l.getD i []).getD 1 0) ≥ 0))
def ZbE (l : List (List Int)) : Bool := decide (l.length ≤ 16) && !(List.range l.length).any (Zfd l)
def stWM (R sp : List (List D)) (v : Bool) (i : Int) : X := ⟨mkT 46 [(0, aS 3 R sp), (2, ab v), (5, aS 3 R sp), (6, ai R.length), (7, ai i)], [], [], []⟩
def vWM (R sp : List (List D)) : Vw := fun y K => wB y 2 fun v => wI y 7 fun i => K (stWM R sp v i)
theorem Zr6 (R sp : List (List D)) : VwOK (vWM R sp) := fun y K h => by
  unfold vWM at h
  obtain ⟨v, h⟩ := Zdx h
  obtain ⟨i, h⟩ := Zcc h
  exact ⟨_, h⟩
theorem rWM (R sp : List (List D)) (v : Bool) (i : Int) (N : X → Prop) (E : Exit → X → Prop) : (ZbV Tryz.prog (hkA band bor [(64, sB lab), (153, sB ix4), (115, sB val8), (139, sRow)] []) Tryz.f106 0 [] [0, 2, 5, 6, 7] [] (vWM R sp) (vWM R sp) N E (stWM R sp v i)) = (bif decide (i < @Nat.cast Int _ (List.length R)) then bif decide (0 ≤ i) && decide (i < @Nat.cast Int _ (List.length R)) then bif isJ [IntKind.i64, IntKind.i64, IntKind.i64] (List.drop (0) (List.getD R (Int.toNat i) [])) then bif !lab (hdJ (List.drop (0) (List.getD R (Int.toNat i) []))) then stWM R sp false i = stWM R sp false i ∧ E Exit.ret (stWM R sp false i) else bif !ix4 (hdJ (List.tail (List.drop (0) (List.getD R (Int.toNat i) [])))) then stWM R sp false i = stWM R sp false i ∧ E Exit.ret (stWM R sp false i) else bif !val8 (hdJ (List.tail (List.tail (List.drop (0) (List.getD R (Int.toNat i) []))))) then stWM R sp false i = stWM R sp false i ∧ E Exit.ret (stWM R sp false i) else bif decide (i > 0) then bif decide (0 ≤ IntKind.wrap IntKind.i64 (i - 1)) && decide (IntKind.wrap IntKind.i64 (i - 1) < @Nat.cast Int _ (List.length R)) then bif isJ [IntKind.i64, IntKind.i64, IntKind.i64] (List.drop (0) (List.getD R (Int.toNat (IntKind.wrap IntKind.i64 (i - 1))) [])) then bif decide (rw3 [hdJ (List.drop (0) (List.getD R (Int.toNat (IntKind.wrap IntKind.i64 (i - 1))) [])), hdJ (List.tail (List.drop (0) (List.getD R (Int.toNat (IntKind.wrap IntKind.i64 (i - 1))) []))), hdJ (List.tail (List.tail (List.drop (0) (List.getD R (Int.toNat (IntKind.wrap IntKind.i64 (i - 1))) []))))] (hdJ (List.drop (0) (List.getD R (Int.toNat i) []))) (hdJ (List.tail (List.drop (0) (List.getD R (Int.toNat i) [])))) ≥ 0) then stWM R sp false i = stWM R sp false i ∧ E Exit.ret (stWM R sp false i) else stWM R sp v (IntKind.wrap IntKind.i64 (i + 1)) = stWM R sp v (IntKind.wrap IntKind.i64 (i + 1)) ∧ N (stWM R sp v (IntKind.wrap IntKind.i64 (i + 1))) else False else False else stWM R sp v (IntKind.wrap IntKind.i64 (i + 1)) = stWM R sp v (IntKind.wrap IntKind.i64 (i + 1)) ∧ N (stWM R sp v (IntKind.wrap IntKind.i64 (i + 1))) else False else False else stWM R sp v i = stWM R sp v i ∧ E (Exit.exit (0)) (stWM R sp v i)) := by kernel_rfl
def stWP (R sp : List (List D)) (v : Bool) (i : Int) : X := ⟨mkT 65 [(0, aS 3 R sp), (2, ab v), (3, ai i)], [], [], []⟩
def vWP (R sp : List (List D)) : Vw := fun y K => wB y 2 fun v => wI y 3 fun i => K (stWP R sp v i)
theorem ZrL (R sp : List (List D)) : VwOK (vWP R sp) := fun y K h => by
  unfold vWP at h
  obtain ⟨v, h⟩ := Zdx h
  obtain ⟨i, h⟩ := Zcc h
  exact ⟨_, h⟩
theorem rWP (R sp : List (List D)) (v : Bool) (i : Int) (N : X → Prop) (E : Exit → X → Prop) : (ZbV Tryz.prog (hkA band bor [(166, sWN), (91, sB val8), (141, sPl)] []) Tryz.f123 0 [] [0, 2, 3] [] (vWP R sp) (vWP R sp) N E (stWP R sp v i)) = (bif decide (i < @Nat.cast Int _ (List.length R)) then bif decide (0 ≤ i) && decide (i < @Nat.cast Int _ (List.length R)) then bif isJ [IntKind.i64] (List.drop (0) (List.getD R (Int.toNat i) [])) then bif decide (0 ≤ i) && decide (i < @Nat.cast Int _ (List.length R)) then bif isJ [IntKind.i64] (List.drop (1) (List.getD R (Int.toNat i) [])) then bif !wnm (hdJ (List.drop (0) (List.getD R (Int.toNat i) []))) (hdJ (List.drop (1) (List.getD R (Int.toNat i) []))) then stWP R sp false i = stWP R sp false i ∧ E Exit.ret (stWP R sp false i) else bif decide (0 ≤ i) && decide (i < @Nat.cast Int _ (List.length R)) then bif isJ [IntKind.i64] (List.drop (2) (List.getD R (Int.toNat i) [])) then bif !val8 (hdJ (List.drop (2) (List.getD R (Int.toNat i) []))) then stWP R sp false i = stWP R sp false i ∧ E Exit.ret (stWP R sp false i) else bif decide (i > 0) then bif decide (0 ≤ i) && decide (i < @Nat.cast Int _ (List.length R)) then bif isJ [IntKind.i64] (List.drop (0) (List.getD R (Int.toNat i) [])) then bif decide (0 ≤ i) && decide (i < @Nat.cast Int _ (List.length R)) then bif isJ [IntKind.i64] (List.drop (1) (List.getD R (Int.toNat i) [])) then bif decide (0 ≤ IntKind.wrap IntKind.i64 (i - 1)) && decide (IntKind.wrap IntKind.i64 (i - 1) < @Nat.cast Int _ (List.length R)) then bif isJ [IntKind.i64] (List.drop (0) (List.getD R (Int.toNat (IntKind.wrap IntKind.i64 (i - 1))) [])) then bif decide (0 ≤ IntKind.wrap IntKind.i64 (i - 1)) && decide (IntKind.wrap IntKind.i64 (i - 1) < @Nat.cast Int _ (List.length R)) then bif isJ [IntKind.i64] (List.drop (1) (List.getD R (Int.toNat (IntKind.wrap IntKind.i64 (i - 1))) [])) then bif decide (plc (hdJ (List.drop (0) (List.getD R (Int.toNat i) []))) (hdJ (List.drop (1) (List.getD R (Int.toNat i) []))) ≤ plc (hdJ (List.drop (0) (List.getD R (Int.toNat (IntKind.wrap IntKind.i64 (i - 1))) []))) (hdJ (List.drop (1) (List.getD R (Int.toNat (IntKind.wrap IntKind.i64 (i - 1))) [])))) then stWP R sp false i = stWP R sp false i ∧ E Exit.ret (stWP R sp false i) else stWP R sp v (IntKind.wrap IntKind.i64 (i + 1)) = stWP R sp v (IntKind.wrap IntKind.i64 (i + 1)) ∧ N (stWP R sp v (IntKind.wrap IntKind.i64 (i + 1))) else False else False else False else False else False else False else False else False else stWP R sp v (IntKind.wrap IntKind.i64 (i + 1)) = stWP R sp v (IntKind.wrap IntKind.i64 (i + 1)) ∧ N (stWP R sp v (IntKind.wrap IntKind.i64 (i + 1))) else False else False else False else False else False else False else stWP R sp v i = stWP R sp v i ∧ E (Exit.exit (0)) (stWP R sp v i)) := by kernel_rfl
theorem ZkC {m : Nat} (h : m + 1 ≤ 9223372036854775807) : IntKind.wrap .i64 (((m + 1 : Nat) : Int) - 1) = ((m : Nat) : Int) := by rw [IntKind.wrap_i64]; omega
def fWM (l : List (List Int)) (sp : List (List D)) : LSum := Zdv [0, 2, 5, 6, 7] [] (fun i => stWM (mZ l) sp false i) (fun i => stWM (mZ l) sp false i) l.length (Zfd l) .ret (.exit 0)
theorem kWM {l : List (List Int)} {sp : List (List D)} (hw : wid 3 l) (hn : l.length ≤ 9223372036854775807) (Q : Exit → X → Prop) (x : X) (h : fWM l sp Q x) : XWP Tryz.prog (.loop (Zar Tryz.f106 0)) Q x := by
  refine Zcb (H := hkA band bor [(64, sB lab), (153, sB ix4), (115, sB val8), (139, sRow)] []) (sw := []) (V := vWM (mZ l) sp) (VE := vWM (mZ l) sp) (ZaL (.cons oLab (.cons oIdx (.cons oVal (.cons oRow .nil))))) mixed (Zai rfl) (Zr6 (mZ l) sp) (Zr6 (mZ l) sp) _ _ _ _ _ _ (fun i hl N E h1 h2 => ?_) (fun N E h1 => ?_) Q x h
  · rw [rWM]
    have wi : IntKind.wrap .i64 ((i : Int) + 1) = ((i + 1 : Nat) : Int) := Zan (n := 1) (by omega)
    have hj1 : isJ [IntKind.i64, IntKind.i64, IntKind.i64] ((mZ l).getD i []) = true := Zav (j := 0) (n := 3) hw hl (by omega)
    have hz : decide (((i : Nat) : Int) > 0) = decide (0 < i) := by by_cases h : 0 < i <;> simp [h]
    simp only [Zaf, Int.ofNat_lt, hl, decide_true, cond_true, Int.natCast_nonneg, Bool.and_self, Int.toNat_natCast, ZaM, ZaO, hj1, List.drop_zero, ZaJ, true_and, wi, hz]
    unfold Zfd okw at h1 h2
    revert h1 h2
    generalize lab ((l.getD i []).getD 0 0) = p1
    generalize ix4 ((l.getD i []).getD 1 0) = p2
    generalize val8 ((l.getD i []).getD 2 0) = p3
    intro h1 h2
    cases p1
    · exact h1 rfl
    cases p2
    · exact h1 rfl
    cases p3
    · exact h1 rfl
    by_cases h0 : 0 < i
    · obtain ⟨m, rfl⟩ : ∃ m, i = m + 1 := ⟨i - 1, by omega⟩
      have hlm : m < l.length := by omega
      have hj2 : isJ [IntKind.i64, IntKind.i64, IntKind.i64] ((mZ l).getD m []) = true := Zav (j := 0) (n := 3) hw hlm (by omega)
      have wp := ZkC (m := m) (by omega)
      have hr : rw3 [(l.getD m []).getD 0 0, (l.getD m []).getD 1 0, (l.getD m []).getD 2 0] ((l.getD (m + 1) []).getD 0 0) ((l.getD (m + 1) []).getD 1 0) = rw3 (l.getD m []) ((l.getD (m + 1) []).getD 0 0) ((l.getD (m + 1) []).getD 1 0) := rfl
      simp only [h0, decide_true, cond_true, wp, Int.ofNat_lt, hlm, Int.natCast_nonneg, Bool.and_self, Int.toNat_natCast, hj2, ZaJ, ZaM, ZaO, hr, Nat.add_sub_cancel, Bool.not_true, Bool.true_and, Bool.false_or, cond_false] at h1 h2 ⊢
      cases hd : decide (rw3 (l.getD m []) ((l.getD (m + 1) []).getD 0 0) ((l.getD (m + 1) []).getD 1 0) ≥ 0) with
      | true => rw [hd] at h1; exact h1 rfl
      | false => rw [hd] at h2; exact h2 rfl
    · simp only [h0, decide_false, Bool.false_and, Bool.or_false, cond_true, Bool.not_true, cond_false] at h1 h2 ⊢
      exact h2 trivial
  · rw [rWM]
    simp only [Zaf, Int.ofNat_lt, Nat.lt_irrefl, decide_false, cond_false, true_and]
    exact h1
theorem eWM (l : List (List Int)) (sp : List (List D)) (K : DV → Prop) : (askL Tryz.prog [] [(2, fWM l sp)] Tryz.f106 [dS 3 (mZ l) sp] K) = (stWM (mZ l) sp false (0) = stWM (mZ l) sp false (0) ∧ (∀ (i : Nat), firstAt (Zfd l) (List.length l) i → K (DV.c (D.v (Value.bool false)))) ∧ (noneTo (Zfd l) (List.length l) → K (DV.c (D.v (Value.bool (decide (@Nat.cast Int _ (List.length (mZ l)) ≤ 16))))))) := by kernel_rfl
def sWMy : Spec := fun ds Q => match ds with | [.c (.s 0 3 R sp)] => cond (okZ 3 R) (Q (B (ZbE (toZ R)))) False | _ => False
theorem oWMy : Zad Tryz.prog 106 sWMy := o_of Tryz.func106 (by kernel_rfl) rfl fun ds Q h => by
  unfold sWMy at h; split at h
  · rename_i R sp
    obtain ⟨h1, h2⟩ := Zag h
    obtain ⟨e1, w1, n1⟩ := Zah h1
    rw [e1]
    rw [← Zal R] at n1
    generalize toZ R = l at *
    refine ⟨_, ZaC (l := []) (m := [(2, fWM l sp)]) .nil mixed (Za7 rfl (by kernel_rfl) (kWM w1 n1)) Tryz.func106 rfl rfl rfl ?_, rfl, rfl, h2⟩
    rw [eWM]
    refine ⟨rfl, fun i hi => ?_, fun hn => ?_⟩
    · unfold ZbE; rw [hi.b]; simp
    · unfold ZbE; rw [hn.b]
      by_cases h : l.length ≤ 16 <;> simp [Zaf, h] <;> omega
  · exact h.elim
def key (r : List Int) : Int := 4 * r.getD 0 0 + r.getD 1 0
def badP (l : List (List Int)) (i : Nat) : Bool := !okw (l.getD i []) || (decide (0 < i) && decide (plc ((l.getD i []).getD 0 0) ((l.getD i []).getD 1 0) ≤ plc ((l.getD (i - 1) []).getD 0 0) ((l.getD (i - 1) []).getD 1 0)))
def inW (r : List Int) : Prop := (0 ≤ r.getD 0 0 ∧ r.getD 0 0 ≤ 3) ∧ (0 ≤ r.getD 1 0 ∧ r.getD 1 0 ≤ 3)
theorem ZgS {x a b : Int} : upto x a b = true ↔ a ≤ x ∧ x ≤ b := by unfold upto; simp
theorem Zca {r : List Int} (h : okw r = true) : inW r ∧ 0 ≤ r.getD 2 0 ∧ r.getD 2 0 ≤ 255 := by
  unfold okw at h
  cases h1 : lab (r.getD 0 0) with
  | false => rw [h1] at h; cases h
  | true =>
    cases h2 : ix4 (r.getD 1 0) with
    | false => rw [h1, h2] at h; cases h
    | true => rw [h1, h2] at h; exact ⟨⟨ZgS.1 h1, ZgS.1 h2⟩, ZgS.1 h⟩
theorem wrap_small {x : Int} (h : -9223372036854775808 ≤ x ∧ x ≤ 9223372036854775807) : IntKind.wrap .i64 x = x := by rw [IntKind.wrap_i64]; omega
theorem Ze3 {r : List Int} (h : inW r) : plc (r.getD 0 0) (r.getD 1 0) = key r := by
  obtain ⟨⟨h1, h2⟩, h3, h4⟩ := h
  unfold plc key
  rw [wrap_small (x := 4 * r.getD 0 0) (by omega), wrap_small (by omega)]
theorem Zha {r : List Int} {a b : Int} (h : inW r) (ha : 0 ≤ a ∧ a ≤ 3) (hb : 0 ≤ b ∧ b ≤ 3) : (rw3 r a b < 0 ↔ key r < 4 * a + b) ∧ (rw3 r a b = 0 ↔ key r = 4 * a + b) := by
  obtain ⟨⟨h1, h2⟩, h3, h4⟩ := h
  unfold rw3 ior key
  rw [wrap_small (x := r.getD 0 0 - a) (by omega), wrap_small (x := r.getD 1 0 - b) (by omega)]
  generalize r.getD 0 0 = x at *
  generalize r.getD 1 0 = y at *
  cases hx : (x - a != 0) with
  | true => have hx : x - a ≠ 0 := by simpa using hx
            simp only [cond_true]; constructor <;> constructor <;> intro h <;> omega
  | false => have hx : x - a = 0 := by simpa using hx
             simp only [cond_false]; constructor <;> constructor <;> intro h <;> omega
def okWs (l : List (List Int)) : Prop := ∀ i, i < l.length → okw (l.getD i []) = true ∧ (0 < i → key (l.getD (i - 1) []) < key (l.getD i []))
theorem ZmC (l : List (List Int)) : (List.range l.length).any (Zfd l) = false ↔ okWs l := by
  rw [List.any_eq_false]
  constructor
  · intro h i hi
    have hb := h i (by simpa using hi)
    have hok : okw (l.getD i []) = true := by
      unfold Zfd at hb
      cases hx : okw (l.getD i []) with
      | true => rfl
      | false => rw [hx] at hb; simp at hb
    refine ⟨hok, fun h0 => ?_⟩
    have hb1 := h (i - 1) (by simp; omega)
    have hok1 : okw (l.getD (i - 1) []) = true := by
      unfold Zfd at hb1
      cases hx : okw (l.getD (i - 1) []) with
      | true => rfl
      | false => rw [hx] at hb1; simp at hb1
    unfold Zfd at hb
    rw [hok] at hb
    have hr := (Zca hok).1
    have := (Zha (Zca hok1).1 hr.1 hr.2).1
    simp only [h0, decide_true, Bool.not_true, Bool.false_or, Bool.true_and, decide_eq_true_eq] at hb
    have := this.1 (by omega)
    unfold key at this ⊢
    omega
  · intro h i hi
    obtain ⟨h1, h2⟩ := h i (by simpa using hi)
    unfold Zfd
    rw [h1]
    by_cases h0 : 0 < i
    · have hi' : i < l.length := by simpa using hi
      have hok1 := (h (i - 1) (by omega)).1
      have hr := (Zca h1).1
      have := (Zha (Zca hok1).1 hr.1 hr.2).1
      have := this.2 (by have := h2 h0; unfold key at this ⊢; omega)
      simp only [h0, decide_true, Bool.not_true, Bool.false_or, Bool.true_and, decide_eq_true_eq]; omega
    · simp only [h0, decide_false, Bool.not_true, Bool.false_or, Bool.false_and]; simp
theorem Zrj (l : List (List Int)) : (List.range l.length).any (badP l) = false ↔ okWs l := by
  rw [List.any_eq_false]
  constructor
  · intro h i hi
    have hb := h i (by simpa using hi)
    have hok : okw (l.getD i []) = true := by
      unfold badP at hb
      cases hx : okw (l.getD i []) with
      | true => rfl
      | false => rw [hx] at hb; simp at hb
    refine ⟨hok, fun h0 => ?_⟩
    have hb1 := h (i - 1) (by simp; omega)
    have hok1 : okw (l.getD (i - 1) []) = true := by
      unfold badP at hb1
      cases hx : okw (l.getD (i - 1) []) with
      | true => rfl
      | false => rw [hx] at hb1; simp at hb1
    unfold badP at hb
    rw [hok, Ze3 (Zca hok).1, Ze3 (Zca hok1).1] at hb
    simp only [h0, decide_true, Bool.not_true, Bool.false_or, Bool.true_and, decide_eq_true_eq] at hb
    omega
  · intro h i hi
    obtain ⟨h1, h2⟩ := h i (by simpa using hi)
    unfold badP
    rw [h1]
    by_cases h0 : 0 < i
    · have hi' : i < l.length := by simpa using hi
      have hok1 := (h (i - 1) (by omega)).1
      rw [Ze3 (Zca h1).1, Ze3 (Zca hok1).1]
      have := h2 h0
      simp only [h0, decide_true, Bool.not_true, Bool.false_or, Bool.true_and, decide_eq_true_eq]; omega
    · simp only [h0, decide_false, Bool.not_true, Bool.false_or, Bool.false_and]; simp
theorem ZuM (l : List (List Int)) : (List.range l.length).any (badP l) = (List.range l.length).any (Zfd l) := by
  have h1 := Zrj l
  have h2 := ZmC l
  cases hp : (List.range l.length).any (badP l) with
  | false => rw [h2.2 (h1.1 hp)]
  | true =>
    cases hw : (List.range l.length).any (Zfd l) with
    | true => rfl
    | false => rw [h1.2 (h2.1 hw)] at hp; cases hp
theorem Zi3 (l : List (List Int)) : ZbE l = true ↔ l.length ≤ 16 ∧ okWs l := by
  unfold ZbE
  simp only [Bool.and_eq_true, decide_eq_true_eq, Bool.not_eq_true', ZmC]
def fWP (l : List (List Int)) (sp : List (List D)) : LSum := Zdv [0, 2, 3] [] (fun i => stWP (mZ l) sp false i) (fun i => stWP (mZ l) sp false i) l.length (badP l) .ret (.exit 0)
theorem kWP {l : List (List Int)} {sp : List (List D)} (hw : wid 3 l) (hn : l.length ≤ 9223372036854775807) (Q : Exit → X → Prop) (x : X) (h : fWP l sp Q x) : XWP Tryz.prog (.loop (Zar Tryz.f123 0)) Q x := by
  refine Zcb (H := hkA band bor [(166, sWN), (91, sB val8), (141, sPl)] []) (sw := []) (V := vWP (mZ l) sp) (VE := vWP (mZ l) sp) (ZaL (.cons oWN (.cons ZgJ (.cons oPl .nil)))) mixed (Zai rfl) (ZrL (mZ l) sp) (ZrL (mZ l) sp) _ _ _ _ _ _ (fun i hl N E h1 h2 => ?_) (fun N E h1 => ?_) Q x h
  · rw [rWP]
    have wi : IntKind.wrap .i64 ((i : Int) + 1) = ((i + 1 : Nat) : Int) := Zan (n := 1) (by omega)
    have hj0 : isJ [IntKind.i64] (((mZ l).getD i [])) = true := ZbR (j := 0) hw hl (by omega)
    have hj1 : isJ [IntKind.i64] (((mZ l).getD i []).drop 1) = true := ZbR (j := 1) hw hl (by omega)
    have hj2 : isJ [IntKind.i64] (((mZ l).getD i []).drop 2) = true := ZbR (j := 2) hw hl (by omega)
    have hz : decide (((i : Nat) : Int) > 0) = decide (0 < i) := by by_cases h : 0 < i <;> simp [h]
    simp only [Zaf, Int.ofNat_lt, hl, decide_true, cond_true, Int.natCast_nonneg, Bool.and_self, Int.toNat_natCast, hj0, hj1, hj2, List.drop_zero, ZaJ, ZbL, true_and, wi, hz]
    unfold badP okw at h1 h2
    unfold wnm
    revert h1 h2
    generalize lab ((l.getD i []).getD 0 0) = p1
    generalize ix4 ((l.getD i []).getD 1 0) = p2
    generalize val8 ((l.getD i []).getD 2 0) = p3
    intro h1 h2
    cases p1
    · exact h1 rfl
    cases p2
    · exact h1 rfl
    cases p3
    · exact h1 rfl
    by_cases h0 : 0 < i
    · obtain ⟨m, rfl⟩ : ∃ m, i = m + 1 := ⟨i - 1, by omega⟩
      have hlm : m < l.length := by omega
      have hk0 : isJ [IntKind.i64] (((mZ l).getD m [])) = true := ZbR (j := 0) hw hlm (by omega)
      have hk1 : isJ [IntKind.i64] (((mZ l).getD m []).drop 1) = true := ZbR (j := 1) hw hlm (by omega)
      have wp := ZkC (m := m) (by omega)
      simp only [h0, decide_true, cond_true, wp, Int.ofNat_lt, hlm, Int.natCast_nonneg, Bool.and_self, Int.toNat_natCast, hk0, hk1, ZaJ, ZbL, Nat.add_sub_cancel, Bool.not_true, Bool.true_and, Bool.false_or, cond_false] at h1 h2 ⊢
      cases hd : decide (plc ((l.getD (m + 1) []).getD 0 0) ((l.getD (m + 1) []).getD 1 0) ≤ plc ((l.getD m []).getD 0 0) ((l.getD m []).getD 1 0)) with
      | true => rw [hd] at h1; exact h1 rfl
      | false => rw [hd] at h2; exact h2 rfl
    · simp only [h0, decide_false, Bool.false_and, Bool.or_false, cond_true, Bool.not_true, cond_false] at h1 h2 ⊢
      exact h2 trivial
  · rw [rWP]
    simp only [Zaf, Int.ofNat_lt, Nat.lt_irrefl, decide_false, cond_false, true_and]
    exact h1
theorem eWP (l : List (List Int)) (sp : List (List D)) (K : DV → Prop) : (askL Tryz.prog [] [(2, fWP l sp)] Tryz.f123 [dS 3 (mZ l) sp] K) = (stWP (mZ l) sp false (0) = stWP (mZ l) sp false (0) ∧ (∀ (i : Nat), firstAt (badP l) (List.length l) i → K (DV.c (D.v (Value.bool false)))) ∧ (noneTo (badP l) (List.length l) → K (DV.c (D.v (Value.bool (decide (@Nat.cast Int _ (List.length (mZ l)) ≤ 16))))))) := by kernel_rfl
theorem oWPy : Zad Tryz.prog 123 sWMy := o_of Tryz.func123 (by kernel_rfl) rfl fun ds Q h => by
  unfold sWMy at h; split at h
  · rename_i R sp
    obtain ⟨h1, h2⟩ := Zag h
    obtain ⟨e1, w1, n1⟩ := Zah h1
    rw [e1]
    rw [← Zal R] at n1
    generalize toZ R = l at *
    refine ⟨_, ZaC (l := []) (m := [(2, fWP l sp)]) .nil mixed (Za7 rfl (by kernel_rfl) (kWP w1 n1)) Tryz.func123 rfl rfl rfl ?_, rfl, rfl, h2⟩
    rw [eWP]
    refine ⟨rfl, fun i hi => ?_, fun hn => ?_⟩
    · unfold ZbE; rw [← ZuM, hi.b]; simp
    · unfold ZbE; rw [← ZuM, hn.b]
      by_cases h : l.length ≤ 16 <;> simp [Zaf, h] <;> omega
  · exact h.elim
end

end Vm
