/- What the functions of this text do, told by an interpreter that is proved right (YtdfehiebnempaaaGA to GD). My own work. -/
import Derived.Test.YtdfehiebnempaaaGWsJ
import Derived.Test.YtdfehiebnempaaaGWsH
namespace Vm
open Go Go.Proofs
set_option linter.unusedSimpArgs false
set_option linter.unusedVariables false
set_option maxRecDepth 100000
def st17 (R sp : List (List D)) (lv g : Int) (q p : Bool) (i : Int) : X := ⟨mkT 72 [(0, aS 3 R sp), (4, ab q), (5, ai g), (6, ab p), (7, ai i)], [], []⟩
def v17 (R sp : List (List D)) (lv g : Int) : Vw := fun y K => wB y 4 fun q => wB y 6 fun p => wI y 7 fun i => K (st17 R sp lv g q p i)
theorem v17_ok (R sp : List (List D)) (lv g : Int) : VwOK (v17 R sp lv g) := fun y K h => by
  unfold v17 at h
  obtain ⟨q, h⟩ := wB_ex h
  obtain ⟨p, h⟩ := wB_ex h
  obtain ⟨i, h⟩ := wI_ex h
  exact ⟨_, h⟩
theorem r17 (R sp : List (List D)) (lv g : Int) (q p : Bool) (i : Int) (N : X → Prop) (E : Exit → X → Prop) : (roundW Try.prog (hkA band bor [(48, sFnd)] []) Try.f17 0 [] [0, 4, 5, 6, 7] [] (v17 R sp lv g) (v17 R sp lv g) N E (st17 R sp lv g q p i)) = (bif decide (i < @Nat.cast Int _ (List.length R)) then bif p then bif decide (0 ≤ i) && decide (i < @Nat.cast Int _ (List.length R)) then bif isJ [IntKind.i64] (List.drop (0) (List.getD R (Int.toNat i) [])) then bif decide (0 ≤ i) && decide (i < @Nat.cast Int _ (List.length R)) then bif isJ [IntKind.i64] (List.drop (0) (List.getD R (Int.toNat i) [])) then bif decide (0 ≤ i) && decide (i < @Nat.cast Int _ (List.length R)) then bif isJ [IntKind.i64] (List.drop (1) (List.getD R (Int.toNat i) [])) then bif okZ (3) R && (decide (List.length R ≤ 4611686018427387903) && (in64 (hdJ (List.drop (0) (List.getD R (Int.toNat i) []))) && in64 (hdJ (List.drop (1) (List.getD R (Int.toNat i) []))))) then bif !fdB (toZ R) (hdJ (List.drop (0) (List.getD R (Int.toNat i) []))) (hdJ (List.drop (1) (List.getD R (Int.toNat i) []))) then st17 R sp lv g false (hdJ (List.drop (0) (List.getD R (Int.toNat i) [])) == g) i = st17 R sp lv g false (hdJ (List.drop (0) (List.getD R (Int.toNat i) [])) == g) i ∧ E Exit.ret (st17 R sp lv g false (hdJ (List.drop (0) (List.getD R (Int.toNat i) [])) == g) i) else bif decide (0 ≤ i) && decide (i < @Nat.cast Int _ (List.length R)) then bif isJ [IntKind.i64] (List.drop (2) (List.getD R (Int.toNat i) [])) then bif fdV (toZ R) (hdJ (List.drop (0) (List.getD R (Int.toNat i) []))) (hdJ (List.drop (1) (List.getD R (Int.toNat i) []))) != hdJ (List.drop (2) (List.getD R (Int.toNat i) [])) then st17 R sp lv g false (hdJ (List.drop (0) (List.getD R (Int.toNat i) [])) == g) i = st17 R sp lv g false (hdJ (List.drop (0) (List.getD R (Int.toNat i) [])) == g) i ∧ E Exit.ret (st17 R sp lv g false (hdJ (List.drop (0) (List.getD R (Int.toNat i) [])) == g) i) else st17 R sp lv g q (hdJ (List.drop (0) (List.getD R (Int.toNat i) [])) == g) (IntKind.wrap IntKind.i64 (i + 1)) = st17 R sp lv g q (hdJ (List.drop (0) (List.getD R (Int.toNat i) [])) == g) (IntKind.wrap IntKind.i64 (i + 1)) ∧ N (st17 R sp lv g q (hdJ (List.drop (0) (List.getD R (Int.toNat i) [])) == g) (IntKind.wrap IntKind.i64 (i + 1))) else False else False else False else False else False else False else False else False else False else bif decide (0 ≤ i) && decide (i < @Nat.cast Int _ (List.length R)) then bif isJ [IntKind.i64] (List.drop (0) (List.getD R (Int.toNat i) [])) then bif decide (0 ≤ i) && decide (i < @Nat.cast Int _ (List.length R)) then bif isJ [IntKind.i64] (List.drop (1) (List.getD R (Int.toNat i) [])) then bif okZ (3) R && (decide (List.length R ≤ 4611686018427387903) && (in64 (hdJ (List.drop (0) (List.getD R (Int.toNat i) []))) && in64 (hdJ (List.drop (1) (List.getD R (Int.toNat i) []))))) then bif !fdB (toZ R) (hdJ (List.drop (0) (List.getD R (Int.toNat i) []))) (hdJ (List.drop (1) (List.getD R (Int.toNat i) []))) then st17 R sp lv g false false i = st17 R sp lv g false false i ∧ E Exit.ret (st17 R sp lv g false false i) else bif decide (0 ≤ i) && decide (i < @Nat.cast Int _ (List.length R)) then bif isJ [IntKind.i64] (List.drop (2) (List.getD R (Int.toNat i) [])) then bif fdV (toZ R) (hdJ (List.drop (0) (List.getD R (Int.toNat i) []))) (hdJ (List.drop (1) (List.getD R (Int.toNat i) []))) != hdJ (List.drop (2) (List.getD R (Int.toNat i) [])) then st17 R sp lv g false false i = st17 R sp lv g false false i ∧ E Exit.ret (st17 R sp lv g false false i) else st17 R sp lv g q false (IntKind.wrap IntKind.i64 (i + 1)) = st17 R sp lv g q false (IntKind.wrap IntKind.i64 (i + 1)) ∧ N (st17 R sp lv g q false (IntKind.wrap IntKind.i64 (i + 1))) else False else False else False else False else False else False else False else st17 R sp lv g q p i = st17 R sp lv g q p i ∧ E (Exit.exit (0)) (st17 R sp lv g q p i)) := by kernel_rfl
theorem notAny (g : Int) : ∀ l : List (List Int), (!l.any (neL g)) = l.all fun r => r.getD 0 0 == g
  | [] => rfl
  | r :: l => by
    rw [List.any_cons, List.all_cons, ← notAny g l]
    show (!((!(r.getD 0 0 == g)) || l.any (neL g))) = ((r.getD 0 0 == g) && !l.any (neL g))
    cases (r.getD 0 0 == g) <;> cases l.any (neL g) <;> rfl
theorem all_takeW {l : List (List Int)} {g : Int} {i : Nat} (h : i < l.length) : ((l.take (i + 1)).all fun r => r.getD 0 0 == g) = (bif (l.take i).all (fun r => r.getD 0 0 == g) then (l.getD i []).getD 0 0 == g else false) := by
  rw [take_get h, List.all_append]
  cases (l.take i).all fun r => r.getD 0 0 == g <;> simp
def f17 (l : List (List Int)) (sp : List (List D)) (lv g : Int) : LSum := fun Q x => x.arr [0, 4, 5, 6, 7] [] = st17 (mZ l) sp lv g false true 0 ∧ ∀ i, Q (.exit 0) (st17 (mZ l) sp lv g false (l.all fun r => r.getD 0 0 == g) i)
theorem k17 {l : List (List Int)} {sp : List (List D)} {lv g : Int} (hw : wid 3 l) (hm : wmay l = true) (Q : Exit → X → Prop) (x : X) (h : f17 l sp lv g Q x) : XWP Try.prog (.loop (bodyL Try.f17 0)) Q x := by
  obtain ⟨h1, h2⟩ := h
  obtain ⟨h16, hws⟩ := (wmay_iff l).1 hm
  refine xwp_roundW (ι := Nat) (H := hkA band bor [(48, sFnd)] []) [] (hkl_ok (.cons oFnd .nil)) mixed (loops_nil rfl) (fun i => st17 (mZ l) sp lv g false ((l.take i).all fun r => r.getD 0 0 == g) i) (fun i => i ≤ l.length) (fun i => l.length - i) 0 (v17 (mZ l) sp lv g) (v17 (mZ l) sp lv g) (v17_ok _ _ _ _) (v17_ok _ _ _ _) (fun i hi => ?_) (Nat.zero_le _) h1
  rw [r17]
  by_cases hl : i < l.length
  · have wi : IntKind.wrap .i64 ((i : Int) + 1) = ((i + 1 : Nat) : Int) := wrap_nat (n := 1) (by omega)
    have hk : okZ 3 (mZ l) = true := okZ_mZ hw (by omega)
    have hj0 : isJ [IntKind.i64] (((mZ l).getD i [])) = true := isJ_mZ1 (j := 0) hw hl (by omega)
    have hj1 : isJ [IntKind.i64] (((mZ l).getD i []).drop 1) = true := isJ_mZ1 (j := 1) hw hl (by omega)
    have hj2 : isJ [IntKind.i64] (((mZ l).getD i []).drop 2) = true := isJ_mZ1 (j := 2) hw hl (by omega)
    have hin := (okw_in (hws i hl).1).1
    unfold inW at hin
    have i1 : in64 ((l.getD i []).getD 0 0) = true := by unfold in64; simp only [Bool.and_eq_true, decide_eq_true_eq]; omega
    have i2 : in64 ((l.getD i []).getD 1 0) = true := by unfold in64; simp only [Bool.and_eq_true, decide_eq_true_eq]; omega
    obtain ⟨f1, f2⟩ := fd_of hm (get_mem hl)
    have hL : decide (l.length ≤ 4611686018427387903) = true := decide_eq_true (by omega)
    have ha := all_takeW (g := g) hl
    simp only [mZ_len, Int.ofNat_lt, hl, decide_true, cond_true, Int.natCast_nonneg, Bool.and_self, Int.toNat_natCast, hj0, hj1, hj2, hk, hL, i1, i2, toZ_mZ, f1, f2, List.drop_zero, hdJ_mZ0, hdJ_mZ, true_and, wi, Bool.not_true, cond_false, bne_self_eq_false]
    cases hp : (l.take i).all fun r => r.getD 0 0 == g with
    | true =>
      rw [hp] at ha
      exact ⟨i + 1, by omega, hl, by rw [ha]; rfl⟩
    | false =>
      rw [hp] at ha
      exact ⟨i + 1, by omega, hl, by rw [ha]; rfl⟩
  · have e : i = l.length := by omega
    subst e
    have hlt : decide (((l.length : Nat) : Int) < ((mZ l).length : Int)) = false := by rw [mZ_len]; simp
    rw [hlt, List.take_length]
    exact ⟨rfl, h2 _⟩
theorem e17 (an : Int → Int → Int) (l : List (List Int)) (sp : List (List D)) (lv : Int) (K : DV → Prop) : (askA an bor Try.prog [(51, sAtW), (53, sWMy), (27, sI), (57, sT)] [(8, f17 l sp lv (an lv 3))] Try.f17 [dS 3 (mZ l) sp, I lv] K) = (bif okZ (3) (mZ l) then bif !wmay (toZ (mZ l)) then bif okZ (3) (mZ l) then K (DV.c (D.v (Value.bool !atW (toZ (mZ l)) (an lv (3))))) else False else st17 (mZ l) sp lv (an lv (3)) false true (0) = st17 (mZ l) sp lv (an lv (3)) false true (0) ∧ ∀ (i : Int), bif okZ (3) (mZ l) then bif atW (toZ (mZ l)) (an lv (3)) == List.all l fun r => List.getD r (0) (0) == an lv (3) then K (DV.c (D.v (Value.bool true))) else K (DV.c (D.v (Value.bool false))) else False else False) := by kernel_rfl
theorem e17n (an : Int → Int → Int) (l : List (List Int)) (sp : List (List D)) (lv : Int) (K : DV → Prop) : (askA an bor Try.prog [(51, sAtW), (53, sWMy), (27, sI), (57, sT)] [(8, fun _ _ => False)] Try.f17 [dS 3 (mZ l) sp, I lv] K) = (bif okZ (3) (mZ l) then bif !wmay (toZ (mZ l)) then bif okZ (3) (mZ l) then K (DV.c (D.v (Value.bool !atW (toZ (mZ l)) (an lv (3))))) else False else False else False) := by kernel_rfl
theorem c17 {R : List (List D)} (sp : List (List D)) (lv : Int) (hR : okZ 3 R = true) : CT Try.prog 17 [dS 3 R sp, I lv] (B true) := by
  obtain ⟨e1, w1, n1⟩ := okZ_spec hR
  rw [e1]
  rw [← toZ_len R] at n1
  generalize toZ R = l at *
  have hk : okZ 3 (mZ l) = true := okZ_mZ w1 n1
  cases hm : wmay l with
  | true =>
    refine ct_askL (l := [(51, sAtW), (53, sWMy), (27, sI), (57, sT)]) (m := [(8, f17 l sp lv (band lv 3))]) (.cons oAtW (.cons oWMy (.cons oNum (.cons oAwW .nil)))) mixed (loops1 rfl (by kernel_rfl) (k17 w1 hm)) Try.func17 rfl rfl rfl ?_
    rw [show askL Try.prog _ _ Try.f17 _ _ = _ from e17 band l sp lv _]
    have ha : atW l (band lv 3) = l.all fun r => r.getD 0 0 == band lv 3 := by
      unfold atW; rw [hm]; simp only [cond_true]
      exact notAny _ l
    simp only [hk, hm, toZ_mZ, cond_true, cond_false, Bool.not_true, ha, true_and, beq_self_eq_true]
    exact fun _ => trivial
  | false =>
    refine ct_askL (l := [(51, sAtW), (53, sWMy), (27, sI), (57, sT)]) (m := [(8, fun _ _ => False)]) (.cons oAtW (.cons oWMy (.cons oNum (.cons oAwW .nil)))) mixed (loops1 rfl (by kernel_rfl) (fun _ _ h => h.elim)) Try.func17 rfl rfl rfl ?_
    rw [show askL Try.prog _ _ Try.f17 _ _ = _ from e17n band l sp lv _]
    have ha : atW l (band lv 3) = false := by unfold atW; rw [hm]; rfl
    simp only [hk, hm, toZ_mZ, cond_true, cond_false, Bool.not_false, ha]
theorem e18 (an : Int → Int → Int) (R sp : List (List D)) (a b : Int) (K : DV → Prop) : (askA an bor Try.prog [(46, sWth), (48, sFnd), (53, sWMy), (27, sI), (50, sSameWrites), (57, sT)] [] Try.f18 [dS 3 R sp, I a, I b] K) = (bif okZ (3) R then bif decide (0 + List.length (mZ (withW (toZ R) [an a (3), an (Int.fdiv a (4)) (3), 7])) ≤ List.length (mZ (withW (toZ R) [an a (3), an (Int.fdiv a (4)) (3), 7]) ++ [])) then bif okZ (3) (cut (mZ (withW (toZ R) [an a (3), an (Int.fdiv a (4)) (3), 7]) ++ []) (0) (List.length (mZ (withW (toZ R) [an a (3), an (Int.fdiv a (4)) (3), 7])))) then bif okZ (3) R then bif decide (0 + List.length (mZ (withW (toZ R) [an b (3), an (Int.fdiv b (4)) (3), 9])) ≤ List.length (mZ (withW (toZ R) [an b (3), an (Int.fdiv b (4)) (3), 9]) ++ [])) then bif okZ (3) (cut (mZ (withW (toZ R) [an b (3), an (Int.fdiv b (4)) (3), 9]) ++ []) (0) (List.length (mZ (withW (toZ R) [an b (3), an (Int.fdiv b (4)) (3), 9])))) then bif withE (toZ R) [an a (3), an (Int.fdiv a (4)) (3), 7] != 0 then bif okZ (3) R then K (DV.c (D.v (Value.bool !wmay (toZ R)))) else False else bif withE (toZ R) [an b (3), an (Int.fdiv b (4)) (3), 9] != 0 then bif okZ (3) R then K (DV.c (D.v (Value.bool !wmay (toZ R)))) else False else bif an a (3) == an b (3) then bif an (Int.fdiv a (4)) (3) == an (Int.fdiv b (4)) (3) then bif decide (0 + List.length (mZ (withW (toZ (cut (mZ (withW (toZ R) [an a (3), an (Int.fdiv a (4)) (3), 7]) ++ []) (0) (List.length (mZ (withW (toZ R) [an a (3), an (Int.fdiv a (4)) (3), 7]))))) [an b (3), an (Int.fdiv b (4)) (3), 9])) ≤ List.length (mZ (withW (toZ (cut (mZ (withW (toZ R) [an a (3), an (Int.fdiv a (4)) (3), 7]) ++ []) (0) (List.length (mZ (withW (toZ R) [an a (3), an (Int.fdiv a (4)) (3), 7]))))) [an b (3), an (Int.fdiv b (4)) (3), 9]) ++ [])) then bif okZ (3) (cut (mZ (withW (toZ (cut (mZ (withW (toZ R) [an a (3), an (Int.fdiv a (4)) (3), 7]) ++ []) (0) (List.length (mZ (withW (toZ R) [an a (3), an (Int.fdiv a (4)) (3), 7]))))) [an b (3), an (Int.fdiv b (4)) (3), 9]) ++ []) (0) (List.length (mZ (withW (toZ (cut (mZ (withW (toZ R) [an a (3), an (Int.fdiv a (4)) (3), 7]) ++ []) (0) (List.length (mZ (withW (toZ R) [an a (3), an (Int.fdiv a (4)) (3), 7]))))) [an b (3), an (Int.fdiv b (4)) (3), 9])))) && (decide (List.length (cut (mZ (withW (toZ (cut (mZ (withW (toZ R) [an a (3), an (Int.fdiv a (4)) (3), 7]) ++ []) (0) (List.length (mZ (withW (toZ R) [an a (3), an (Int.fdiv a (4)) (3), 7]))))) [an b (3), an (Int.fdiv b (4)) (3), 9]) ++ []) (0) (List.length (mZ (withW (toZ (cut (mZ (withW (toZ R) [an a (3), an (Int.fdiv a (4)) (3), 7]) ++ []) (0) (List.length (mZ (withW (toZ R) [an a (3), an (Int.fdiv a (4)) (3), 7]))))) [an b (3), an (Int.fdiv b (4)) (3), 9])))) ≤ 4611686018427387903) && (in64 (an a (3)) && in64 (an (Int.fdiv a (4)) (3)))) then bif withE (toZ (cut (mZ (withW (toZ R) [an a (3), an (Int.fdiv a (4)) (3), 7]) ++ []) (0) (List.length (mZ (withW (toZ R) [an a (3), an (Int.fdiv a (4)) (3), 7]))))) [an b (3), an (Int.fdiv b (4)) (3), 9] == 0 then bif withE (toZ (cut (mZ (withW (toZ R) [an b (3), an (Int.fdiv b (4)) (3), 9]) ++ []) (0) (List.length (mZ (withW (toZ R) [an b (3), an (Int.fdiv b (4)) (3), 9]))))) [an a (3), an (Int.fdiv a (4)) (3), 7] == 0 then bif fdB (toZ (cut (mZ (withW (toZ (cut (mZ (withW (toZ R) [an a (3), an (Int.fdiv a (4)) (3), 7]) ++ []) (0) (List.length (mZ (withW (toZ R) [an a (3), an (Int.fdiv a (4)) (3), 7]))))) [an b (3), an (Int.fdiv b (4)) (3), 9]) ++ []) (0) (List.length (mZ (withW (toZ (cut (mZ (withW (toZ R) [an a (3), an (Int.fdiv a (4)) (3), 7]) ++ []) (0) (List.length (mZ (withW (toZ R) [an a (3), an (Int.fdiv a (4)) (3), 7]))))) [an b (3), an (Int.fdiv b (4)) (3), 9]))))) (an a (3)) (an (Int.fdiv a (4)) (3)) then bif fdV (toZ (cut (mZ (withW (toZ (cut (mZ (withW (toZ R) [an a (3), an (Int.fdiv a (4)) (3), 7]) ++ []) (0) (List.length (mZ (withW (toZ R) [an a (3), an (Int.fdiv a (4)) (3), 7]))))) [an b (3), an (Int.fdiv b (4)) (3), 9]) ++ []) (0) (List.length (mZ (withW (toZ (cut (mZ (withW (toZ R) [an a (3), an (Int.fdiv a (4)) (3), 7]) ++ []) (0) (List.length (mZ (withW (toZ R) [an a (3), an (Int.fdiv a (4)) (3), 7]))))) [an b (3), an (Int.fdiv b (4)) (3), 9]))))) (an a (3)) (an (Int.fdiv a (4)) (3)) == 9 then K (DV.c (D.v (Value.bool (@Nat.cast Int _ (List.length (mZ (withW (toZ (cut (mZ (withW (toZ R) [an a (3), an (Int.fdiv a (4)) (3), 7]) ++ []) (0) (List.length (mZ (withW (toZ R) [an a (3), an (Int.fdiv a (4)) (3), 7]))))) [an b (3), an (Int.fdiv b (4)) (3), 9]))) == @Nat.cast Int _ (List.length (mZ (withW (toZ R) [an a (3), an (Int.fdiv a (4)) (3), 7]))))))) else K (DV.c (D.v (Value.bool false))) else K (DV.c (D.v (Value.bool false))) else K (DV.c (D.v (Value.bool false))) else K (DV.c (D.v (Value.bool false))) else False else False else bif withE (toZ (cut (mZ (withW (toZ R) [an a (3), an (Int.fdiv a (4)) (3), 7]) ++ []) (0) (List.length (mZ (withW (toZ R) [an a (3), an (Int.fdiv a (4)) (3), 7]))))) [an b (3), an (Int.fdiv b (4)) (3), 9] == 0 then bif withE (toZ (cut (mZ (withW (toZ R) [an b (3), an (Int.fdiv b (4)) (3), 9]) ++ []) (0) (List.length (mZ (withW (toZ R) [an b (3), an (Int.fdiv b (4)) (3), 9]))))) [an a (3), an (Int.fdiv a (4)) (3), 7] == 0 then bif decide (0 + List.length (mZ (withW (toZ (cut (mZ (withW (toZ R) [an a (3), an (Int.fdiv a (4)) (3), 7]) ++ []) (0) (List.length (mZ (withW (toZ R) [an a (3), an (Int.fdiv a (4)) (3), 7]))))) [an b (3), an (Int.fdiv b (4)) (3), 9])) ≤ List.length (mZ (withW (toZ (cut (mZ (withW (toZ R) [an a (3), an (Int.fdiv a (4)) (3), 7]) ++ []) (0) (List.length (mZ (withW (toZ R) [an a (3), an (Int.fdiv a (4)) (3), 7]))))) [an b (3), an (Int.fdiv b (4)) (3), 9]) ++ [])) then bif decide (0 + List.length (mZ (withW (toZ (cut (mZ (withW (toZ R) [an b (3), an (Int.fdiv b (4)) (3), 9]) ++ []) (0) (List.length (mZ (withW (toZ R) [an b (3), an (Int.fdiv b (4)) (3), 9]))))) [an a (3), an (Int.fdiv a (4)) (3), 7])) ≤ List.length (mZ (withW (toZ (cut (mZ (withW (toZ R) [an b (3), an (Int.fdiv b (4)) (3), 9]) ++ []) (0) (List.length (mZ (withW (toZ R) [an b (3), an (Int.fdiv b (4)) (3), 9]))))) [an a (3), an (Int.fdiv a (4)) (3), 7]) ++ [])) then bif okZ (3) (cut (mZ (withW (toZ (cut (mZ (withW (toZ R) [an a (3), an (Int.fdiv a (4)) (3), 7]) ++ []) (0) (List.length (mZ (withW (toZ R) [an a (3), an (Int.fdiv a (4)) (3), 7]))))) [an b (3), an (Int.fdiv b (4)) (3), 9]) ++ []) (0) (List.length (mZ (withW (toZ (cut (mZ (withW (toZ R) [an a (3), an (Int.fdiv a (4)) (3), 7]) ++ []) (0) (List.length (mZ (withW (toZ R) [an a (3), an (Int.fdiv a (4)) (3), 7]))))) [an b (3), an (Int.fdiv b (4)) (3), 9])))) && okZ (3) (cut (mZ (withW (toZ (cut (mZ (withW (toZ R) [an b (3), an (Int.fdiv b (4)) (3), 9]) ++ []) (0) (List.length (mZ (withW (toZ R) [an b (3), an (Int.fdiv b (4)) (3), 9]))))) [an a (3), an (Int.fdiv a (4)) (3), 7]) ++ []) (0) (List.length (mZ (withW (toZ (cut (mZ (withW (toZ R) [an b (3), an (Int.fdiv b (4)) (3), 9]) ++ []) (0) (List.length (mZ (withW (toZ R) [an b (3), an (Int.fdiv b (4)) (3), 9]))))) [an a (3), an (Int.fdiv a (4)) (3), 7])))) then K (DV.c (D.v (Value.bool (decide (toZ (cut (mZ (withW (toZ (cut (mZ (withW (toZ R) [an a (3), an (Int.fdiv a (4)) (3), 7]) ++ []) (0) (List.length (mZ (withW (toZ R) [an a (3), an (Int.fdiv a (4)) (3), 7]))))) [an b (3), an (Int.fdiv b (4)) (3), 9]) ++ []) (0) (List.length (mZ (withW (toZ (cut (mZ (withW (toZ R) [an a (3), an (Int.fdiv a (4)) (3), 7]) ++ []) (0) (List.length (mZ (withW (toZ R) [an a (3), an (Int.fdiv a (4)) (3), 7]))))) [an b (3), an (Int.fdiv b (4)) (3), 9])))) = toZ (cut (mZ (withW (toZ (cut (mZ (withW (toZ R) [an b (3), an (Int.fdiv b (4)) (3), 9]) ++ []) (0) (List.length (mZ (withW (toZ R) [an b (3), an (Int.fdiv b (4)) (3), 9]))))) [an a (3), an (Int.fdiv a (4)) (3), 7]) ++ []) (0) (List.length (mZ (withW (toZ (cut (mZ (withW (toZ R) [an b (3), an (Int.fdiv b (4)) (3), 9]) ++ []) (0) (List.length (mZ (withW (toZ R) [an b (3), an (Int.fdiv b (4)) (3), 9]))))) [an a (3), an (Int.fdiv a (4)) (3), 7]))))))))) else False else False else False else K (DV.c (D.v (Value.bool false))) else K (DV.c (D.v (Value.bool false))) else bif withE (toZ (cut (mZ (withW (toZ R) [an a (3), an (Int.fdiv a (4)) (3), 7]) ++ []) (0) (List.length (mZ (withW (toZ R) [an a (3), an (Int.fdiv a (4)) (3), 7]))))) [an b (3), an (Int.fdiv b (4)) (3), 9] == 0 then bif withE (toZ (cut (mZ (withW (toZ R) [an b (3), an (Int.fdiv b (4)) (3), 9]) ++ []) (0) (List.length (mZ (withW (toZ R) [an b (3), an (Int.fdiv b (4)) (3), 9]))))) [an a (3), an (Int.fdiv a (4)) (3), 7] == 0 then bif decide (0 + List.length (mZ (withW (toZ (cut (mZ (withW (toZ R) [an a (3), an (Int.fdiv a (4)) (3), 7]) ++ []) (0) (List.length (mZ (withW (toZ R) [an a (3), an (Int.fdiv a (4)) (3), 7]))))) [an b (3), an (Int.fdiv b (4)) (3), 9])) ≤ List.length (mZ (withW (toZ (cut (mZ (withW (toZ R) [an a (3), an (Int.fdiv a (4)) (3), 7]) ++ []) (0) (List.length (mZ (withW (toZ R) [an a (3), an (Int.fdiv a (4)) (3), 7]))))) [an b (3), an (Int.fdiv b (4)) (3), 9]) ++ [])) then bif decide (0 + List.length (mZ (withW (toZ (cut (mZ (withW (toZ R) [an b (3), an (Int.fdiv b (4)) (3), 9]) ++ []) (0) (List.length (mZ (withW (toZ R) [an b (3), an (Int.fdiv b (4)) (3), 9]))))) [an a (3), an (Int.fdiv a (4)) (3), 7])) ≤ List.length (mZ (withW (toZ (cut (mZ (withW (toZ R) [an b (3), an (Int.fdiv b (4)) (3), 9]) ++ []) (0) (List.length (mZ (withW (toZ R) [an b (3), an (Int.fdiv b (4)) (3), 9]))))) [an a (3), an (Int.fdiv a (4)) (3), 7]) ++ [])) then bif okZ (3) (cut (mZ (withW (toZ (cut (mZ (withW (toZ R) [an a (3), an (Int.fdiv a (4)) (3), 7]) ++ []) (0) (List.length (mZ (withW (toZ R) [an a (3), an (Int.fdiv a (4)) (3), 7]))))) [an b (3), an (Int.fdiv b (4)) (3), 9]) ++ []) (0) (List.length (mZ (withW (toZ (cut (mZ (withW (toZ R) [an a (3), an (Int.fdiv a (4)) (3), 7]) ++ []) (0) (List.length (mZ (withW (toZ R) [an a (3), an (Int.fdiv a (4)) (3), 7]))))) [an b (3), an (Int.fdiv b (4)) (3), 9])))) && okZ (3) (cut (mZ (withW (toZ (cut (mZ (withW (toZ R) [an b (3), an (Int.fdiv b (4)) (3), 9]) ++ []) (0) (List.length (mZ (withW (toZ R) [an b (3), an (Int.fdiv b (4)) (3), 9]))))) [an a (3), an (Int.fdiv a (4)) (3), 7]) ++ []) (0) (List.length (mZ (withW (toZ (cut (mZ (withW (toZ R) [an b (3), an (Int.fdiv b (4)) (3), 9]) ++ []) (0) (List.length (mZ (withW (toZ R) [an b (3), an (Int.fdiv b (4)) (3), 9]))))) [an a (3), an (Int.fdiv a (4)) (3), 7])))) then K (DV.c (D.v (Value.bool (decide (toZ (cut (mZ (withW (toZ (cut (mZ (withW (toZ R) [an a (3), an (Int.fdiv a (4)) (3), 7]) ++ []) (0) (List.length (mZ (withW (toZ R) [an a (3), an (Int.fdiv a (4)) (3), 7]))))) [an b (3), an (Int.fdiv b (4)) (3), 9]) ++ []) (0) (List.length (mZ (withW (toZ (cut (mZ (withW (toZ R) [an a (3), an (Int.fdiv a (4)) (3), 7]) ++ []) (0) (List.length (mZ (withW (toZ R) [an a (3), an (Int.fdiv a (4)) (3), 7]))))) [an b (3), an (Int.fdiv b (4)) (3), 9])))) = toZ (cut (mZ (withW (toZ (cut (mZ (withW (toZ R) [an b (3), an (Int.fdiv b (4)) (3), 9]) ++ []) (0) (List.length (mZ (withW (toZ R) [an b (3), an (Int.fdiv b (4)) (3), 9]))))) [an a (3), an (Int.fdiv a (4)) (3), 7]) ++ []) (0) (List.length (mZ (withW (toZ (cut (mZ (withW (toZ R) [an b (3), an (Int.fdiv b (4)) (3), 9]) ++ []) (0) (List.length (mZ (withW (toZ R) [an b (3), an (Int.fdiv b (4)) (3), 9]))))) [an a (3), an (Int.fdiv a (4)) (3), 7]))))))))) else False else False else False else K (DV.c (D.v (Value.bool false))) else K (DV.c (D.v (Value.bool false))) else False else False else False else False else False else False) := by kernel_rfl
theorem hasW_iff {l : List (List Int)} (h : okWs l) {k : Int} : hasW l k = true ↔ ∃ x, x ∈ l ∧ key x = k := by
  constructor
  · intro hh
    unfold hasW at hh
    simp only [Bool.and_eq_true, decide_eq_true_eq] at hh
    exact ⟨_, get_mem hh.1, hh.2⟩
  · rintro ⟨x, hx, hk⟩
    obtain ⟨i, hi, rfl⟩ := mem_get hx
    have := get_le h hi hk
    unfold hasW
    rw [this, decide_eq_true hi, decide_eq_true hk]; rfl
theorem putW_len {l : List (List Int)} (r : List Int) : (putW l r).length = bif hasW l (key r) then l.length else l.length + 1 := by
  unfold putW
  have hle := lessW_le l (key r)
  cases hh : hasW l (key r) with
  | true =>
    have : lessW l (key r) < l.length := by
      unfold hasW at hh
      simp only [Bool.and_eq_true, decide_eq_true_eq] at hh
      exact hh.1
    simp only [cond_true, List.length_append, List.length_take, List.length_cons, List.length_drop]; omega
  | false => simp only [cond_false, List.length_append, List.length_take, List.length_cons, List.length_drop]; omega
theorem put_comm {l : List (List Int)} (h : okWs l) {x y : List Int} (hx : okw x = true) (hy : okw y = true) (hne : key x ≠ key y) : putW (putW l x) y = putW (putW l y) x := by
  have h1 := okWs_put h hx
  have h2 := okWs_put h hy
  refine okWs_ext (okWs_put h1 hy) (okWs_put h2 hx) fun z => ?_
  rw [mem_put h1, mem_put h2, mem_put h, mem_put h]
  constructor
  · rintro (rfl | ⟨rfl | ⟨h3, h4⟩, h5⟩)
    · exact .inr ⟨.inl rfl, fun e => hne e.symm⟩
    · exact .inl rfl
    · exact .inr ⟨.inr ⟨h3, h5⟩, h4⟩
  · rintro (rfl | ⟨rfl | ⟨h3, h4⟩, h5⟩)
    · exact .inr ⟨.inl rfl, hne⟩
    · exact .inl rfl
    · exact .inr ⟨.inr ⟨h3, h5⟩, h4⟩
theorem c18 {R : List (List D)} (sp : List (List D)) (a b : Int) (hR : okZ 3 R = true) : CT Try.prog 18 [dS 3 R sp, I a, I b] (B true) := by
  refine ct_askL (l := [(46, sWth), (48, sFnd), (53, sWMy), (27, sI), (50, sSameWrites), (57, sT)]) (m := []) (.cons oWth (.cons oFnd (.cons oWMy (.cons oNum (.cons oSameWrites (.cons oAwW .nil)))))) mixed (loops_nil rfl) Try.func18 rfl rfl rfl ?_
  rw [show askL Try.prog _ _ Try.f18 _ _ = _ from e18 band R sp a b _]
  have m1 : 0 ≤ band a 3 ∧ band a 3 ≤ 3 := by rw [mask2]; omega
  have m2 : 0 ≤ band b 3 ∧ band b 3 ≤ 3 := by rw [mask2]; omega
  have m3 : 0 ≤ band (Int.fdiv a 4) 3 ∧ band (Int.fdiv a 4) 3 ≤ 3 := by rw [mask2]; omega
  have m4 : 0 ≤ band (Int.fdiv b 4) 3 ∧ band (Int.fdiv b 4) 3 ≤ 3 := by rw [mask2]; omega
  generalize band a 3 = p at *
  generalize band b 3 = r at *
  generalize band (Int.fdiv a 4) 3 = q at *
  generalize band (Int.fdiv b 4) 3 = s at *
  obtain ⟨e1, w1, n1⟩ := okZ_spec hR
  rw [← toZ_len R] at n1
  generalize toZ R = l at *
  have ox : okw [p, q, 7] = true := by
    unfold okw lab ix4 val8
    simp only [List.getD_cons_zero, List.getD_cons_succ]
    rw [upto_spec.2 m1, upto_spec.2 m3]; rfl
  have oy : okw [r, s, 9] = true := by
    unfold okw lab ix4 val8
    simp only [List.getD_cons_zero, List.getD_cons_succ]
    rw [upto_spec.2 m2, upto_spec.2 m4]; rfl
  have z1 := okZW w1 p q 7
  have z2 := okZW w1 r s 9
  have z3 := okZW (withW_wid w1 p q 7) r s 9
  have z4 := okZW (withW_wid w1 r s 9) p q 7
  have i1 : in64 p = true := by unfold in64; simp only [Bool.and_eq_true, decide_eq_true_eq]; omega
  have i2 : in64 q = true := by unfold in64; simp only [Bool.and_eq_true, decide_eq_true_eq]; omega
  have hL : decide ((mZ (withW (withW l [p, q, 7]) [r, s, 9])).length ≤ 4611686018427387903) = true := by
    rw [mZ_len]; have := withW_len (l := withW l [p, q, 7]) [r, s, 9]; exact decide_eq_true (by omega)
  simp only [hR, cond_true, List.append_nil, Nat.zero_add, Nat.le_refl, decide_true, cut_all rfl, toZ_mZ, z1, z2, z3, z4, i1, i2, hL, Bool.and_self]
  cases hm : wmay l with
  | false =>
    have : withE l [p, q, 7] = 1000 := withE_bad hm
    rw [this]; rfl
  | true =>
    have hws := ((wmay_iff l).1 hm).2
    have e2 : withE l [p, q, 7] = 0 := by unfold withE; rw [hm, ox]; rfl
    have e3 : withE l [r, s, 9] = 0 := by unfold withE; rw [hm, oy]; rfl
    have e4 : withW l [p, q, 7] = putW l [p, q, 7] := by unfold withW; rw [hm, ox]; rfl
    have e5 : withW l [r, s, 9] = putW l [r, s, 9] := by unfold withW; rw [hm, oy]; rfl
    have hm1 := wmay_put hm ox
    have hm2 := wmay_put hm oy
    have e6 : withE (putW l [p, q, 7]) [r, s, 9] = 0 := by unfold withE; rw [hm1, oy]; rfl
    have e7 : withE (putW l [r, s, 9]) [p, q, 7] = 0 := by unfold withE; rw [hm2, ox]; rfl
    have e8 : withW (putW l [p, q, 7]) [r, s, 9] = putW (putW l [p, q, 7]) [r, s, 9] := by unfold withW; rw [hm1, oy]; rfl
    have e9 : withW (putW l [r, s, 9]) [p, q, 7] = putW (putW l [r, s, 9]) [p, q, 7] := by unfold withW; rw [hm2, ox]; rfl
    have hw1 := ((wmay_iff _).1 hm1).2
    simp only [e2, e3, e4, e5, e6, e7, e8, e9, bne_self_eq_false, cond_false, beq_self_eq_true, cond_true]
    have hdiff : ¬ (p = r ∧ q = s) → putW (putW l [p, q, 7]) [r, s, 9] = putW (putW l [r, s, 9]) [p, q, 7] := fun h => put_comm hws ox oy (by unfold key; simp only [List.getD_cons_zero, List.getD_cons_succ]; omega)
    by_cases h1 : p = r
    · by_cases h2 : q = s
      · subst h1 h2
        have hmem : [p, q, 9] ∈ putW (putW l [p, q, 7]) [p, q, 9] := (mem_put hw1).2 (.inl rfl)
        have hf := fd_of (wmay_put hm1 oy) hmem
        simp only [List.getD_cons_zero, List.getD_cons_succ] at hf
        have hh : hasW (putW l [p, q, 7]) (key [p, q, 9]) = true := (hasW_iff hw1).2 ⟨[p, q, 7], (mem_put hws).2 (.inl rfl), rfl⟩
        have hlen := putW_len (l := putW l [p, q, 7]) [p, q, 9]
        rw [hh] at hlen
        simp only [hf.1, hf.2, beq_self_eq_true, cond_true, mZ_len, hlen]
      · have hb : (q == s) = false := by simpa using h2
        subst h1
        have := hdiff (fun h => h2 h.2)
        simp only [beq_self_eq_true, hb, cond_true, cond_false, this, decide_true]
    · have hb : (p == r) = false := by simpa using h1
      have := hdiff (fun h => h1 h.1)
      simp only [hb, cond_true, cond_false, this, decide_true]
theorem c17' (x : D) (lv : Int) (hx : Good kWr x) : CT Try.prog 17 [.c x, I lv] (B true) := by
  obtain ⟨R, rfl, hR, hl⟩ := Good.rows (z := 3) hx
  exact c17 [] lv hR
theorem c18' (x : D) (a b : Int) (hx : Good kWr x) : CT Try.prog 18 [.c x, I a, I b] (B true) := by
  obtain ⟨R, rfl, hR, hl⟩ := Good.rows (z := 3) hx
  exact c18 [] a b hR
end Vm
