/- What the functions of this text do, told by an interpreter that is proved right (YtdfehiebnempaaaGA to GD). My own work. -/
import Derived.Test.YtdfehiebnempaaaGWsD
namespace Vm
open Go Go.Proofs
set_option linter.unusedSimpArgs false
set_option linter.unusedVariables false
set_option maxRecDepth 100000
def sNe : Spec := fun ds Q => match ds with | [.agg [.v (.int .i64 x), .v (.int .i64 y), .v (.int .i64 z)], .c (.p 0 [.v (.int .i64 a)] 0)] => Q (B (neL a [x, y, z])) | _ => False
theorem oNe : SpecOK Try.prog 88 sNe := o_of Try.func88 (by kernel_rfl) rfl fun ds Q h => by
  unfold sNe at h; split at h
  · rename_i x y z a
    refine ⟨_, ct_ask .nil mixed Try.func88 rfl rfl rfl ?_, rfl, rfl, h⟩
    rw [eAt1]; rfl
  · exact h.elim
def sIXNe (a : Int) (R : List (List D)) (sp : List (List D)) (v : Int) (i : Int) : X := ⟨mkT 19 [(0, aS 3 R sp), (1, .c (.d (.f 88 [] [.p 0 [vI a] 0]))), (4, ai v), (7, ai R.length), (8, ai i)], [], []⟩
def v_sIXNe (a : Int) (R : List (List D)) (sp : List (List D)) : Vw := fun y K => wI y 4 fun v => wI y 8 fun i => K (sIXNe a R sp v i)
theorem v_sIXNe_ok (a : Int) (R : List (List D)) (sp : List (List D)) : VwOK (v_sIXNe a R sp) := fun y K h => by
  unfold v_sIXNe at h
  obtain ⟨v, h⟩ := wI_ex h
  obtain ⟨i, h⟩ := wI_ex h
  exact ⟨_, h⟩
theorem rIXNe (a : Int) (R sp : List (List D)) (i v : Int) (N : X → Prop) (E : Exit → X → Prop) : (roundW Try.prog (hkA band bor [(88, sNe)] []) Try.f101 0 [] [0, 1, 4, 7, 8] [] (v_sIXNe a R sp) (v_sIXNe a R sp) N E (sIXNe a R sp v i)) = (bif decide (i < @Nat.cast Int _ (List.length R)) then bif decide (0 ≤ i) && decide (i < @Nat.cast Int _ (List.length R)) then bif isJ [IntKind.i64, IntKind.i64, IntKind.i64] (List.drop (0) (List.getD R (Int.toNat i) [])) then bif neL a [hdJ (List.drop (0) (List.getD R (Int.toNat i) [])), hdJ (List.tail (List.drop (0) (List.getD R (Int.toNat i) []))), hdJ (List.tail (List.tail (List.drop (0) (List.getD R (Int.toNat i) []))))] then sIXNe a R sp i i = sIXNe a R sp i i ∧ E Exit.ret (sIXNe a R sp i i) else sIXNe a R sp v (IntKind.wrap IntKind.i64 (i + 1)) = sIXNe a R sp v (IntKind.wrap IntKind.i64 (i + 1)) ∧ N (sIXNe a R sp v (IntKind.wrap IntKind.i64 (i + 1))) else False else False else sIXNe a R sp v i = sIXNe a R sp v i ∧ E (Exit.exit (0)) (sIXNe a R sp v i)) := by kernel_rfl
def fIXNe (a : Int) (l : List (List Int)) (sp : List (List D)) : LSum := findS [0, 1, 4, 7, 8] [] (fun i => sIXNe a (mZ l) sp 0 i) (fun i => sIXNe a (mZ l) sp i i) l.length (fun i => neL a (l.getD i [])) .ret (.exit 0)
theorem eIXNe (a : Int) (l : List (List Int)) (sp : List (List D)) (K : DV → Prop) : (askL Try.prog [] [(2, fIXNe a l sp)] Try.f101 [dS 3 (mZ l) sp, .c (.f 88 [] [.p 0 [vI a] 0])] K) = (sIXNe a (mZ l) sp (0) (0) = sIXNe a (mZ l) sp (0) (0) ∧ (∀ (i : Nat), firstAt (fun i => neL a (List.getD l i [])) (List.length l) i → K (DV.c (D.v (Value.int IntKind.i64 (@Nat.cast Int _ i))))) ∧ (noneTo (fun i => neL a (List.getD l i [])) (List.length l) → K (DV.c (D.v (Value.int IntKind.i64 (-1)))))) := by kernel_rfl
theorem kIXNe (a : Int) {l : List (List Int)} {sp : List (List D)} (hw : wid 3 l) (hn : l.length ≤ 9223372036854775807) (Q : Exit → X → Prop) (x : X) (h : fIXNe a l sp Q x) : XWP Try.prog (.loop (bodyL Try.f101 0)) Q x := by
  refine xwp_find (H := hkA band bor [(88, sNe)] []) (sw := []) (V := v_sIXNe a (mZ l) sp) (VE := v_sIXNe a (mZ l) sp) (hkl_ok (.cons oNe .nil)) mixed (loops_nil rfl) (v_sIXNe_ok a (mZ l) sp) (v_sIXNe_ok a (mZ l) sp) _ _ _ _ _ _ (fun i hl N E h1 h2 => ?_) (fun N E h1 => ?_) Q x h
  · rw [rIXNe]
    have wi : IntKind.wrap .i64 ((i : Int) + 1) = ((i + 1 : Nat) : Int) := wrap_nat (n := 1) (by omega)
    have hj1 : isJ [IntKind.i64, IntKind.i64, IntKind.i64] ((mZ l).getD i []) = true := isJ_mZ (j := 0) (n := 3) hw hl (by omega)
    simp only [mZ_len, Int.ofNat_lt, hl, decide_true, cond_true, Int.natCast_nonneg, Bool.and_self, Int.toNat_natCast, hdJ_mZt1, hdJ_mZt2, hdJ_mZt3, hj1, List.drop_zero, hdJ_mZ0, true_and, wi]
    have e : neL a (l.getD i []) = neL a [(l.getD i []).getD 0 0, (l.getD i []).getD 1 0, (l.getD i []).getD 2 0] := rfl
    cases ho : neL a (l.getD i []) with
    | false => rw [e] at ho; rw [ho]; exact h2 (by rw [e]; exact ho)
    | true => rw [e] at ho; rw [ho]; exact h1 (by rw [e]; exact ho)
  · rw [rIXNe]
    simp only [mZ_len, Int.ofNat_lt, Nat.lt_irrefl, decide_false, cond_false, true_and]
    exact h1
def sIxNe : Spec := fun ds Q => match ds with | [.c (.s 0 3 R sp), .c (.f 88 [] [.p 0 [.v (.int .i64 a)] 0])] => cond (okZ 3 R) (Q (I (match (toZ R).findIdx? (neL a) with | some i => (i : Int) | none => -1))) False | _ => False
theorem oIxNe : SpecOK Try.prog 101 sIxNe := o_of Try.func101 (by kernel_rfl) rfl fun ds Q h => by
  unfold sIxNe at h; split at h
  · rename_i R sp a
    obtain ⟨h1, h2⟩ := cond_P h
    obtain ⟨e1, w1, n1⟩ := okZ_spec h1
    rw [e1]
    rw [← toZ_len R] at n1
    generalize toZ R = l at *
    refine ⟨_, ct_askL (l := []) (m := [(2, fIXNe a l sp)]) .nil mixed (loops1 rfl (by kernel_rfl) (kIXNe a w1 n1)) Try.func101 rfl rfl rfl ?_, rfl, rfl, h2⟩
    rw [eIXNe]
    refine ⟨rfl, fun i hi => ?_, fun hn => ?_⟩
    · rw [hi.find]
    · rw [hn.find]
  · exact h.elim
theorem eCONe (a : Int) (R sp : List (List D)) (K : DV → Prop) : (ask Try.prog [(101, sIxNe)] Try.f89 [dS 3 R sp, .c (.f 88 [] [.p 0 [vI a] 0])] K) = (bif okZ (3) R then K (DV.c (D.v (Value.bool (decide ((match List.findIdx? (neL a) (toZ R) with | some i => @Nat.cast Int _ i | none => -1) ≥ 0))))) else False) := by kernel_rfl
def sCoNe : Spec := fun ds Q => match ds with | [.c (.s 0 3 R sp), .c (.f 88 [] [.p 0 [.v (.int .i64 a)] 0])] => cond (okZ 3 R) (Q (B ((toZ R).any (neL a)))) False | _ => False
theorem oCoNe : SpecOK Try.prog 89 sCoNe := o_of Try.func89 (by kernel_rfl) rfl fun ds Q h => by
  unfold sCoNe at h; split at h
  · obtain ⟨h1, h2⟩ := cond_P h
    refine ⟨_, ct_ask (.cons oIxNe .nil) mixed Try.func89 rfl rfl rfl ?_, rfl, rfl, h2⟩
    rw [eCONe, h1]; exact congrArg (fun b => DV.c (D.v (Value.bool b))) (any_find _ _)
  · exact h.elim
theorem eAt (R sp : List (List D)) (a : Int) (K : DV → Prop) : (ask Try.prog [(53, sWMy), (89, sCoNe)] Try.f51 [dS 3 R sp, I a] K) = (bif okZ (3) R then bif wmay (toZ R) then bif okZ (3) R then K (DV.c (D.v (Value.bool !List.any (toZ R) (neL a)))) else False else K (DV.c (D.v (Value.bool false))) else False) := by kernel_rfl
def stFW (R sp : List (List D)) (a b v : Int) (p : Bool) (i : Int) : X := ⟨mkT 40 [(0, aS 3 R sp), (1, ai a), (2, ai b), (6, ai v), (7, ab p), (8, ai i)], [], []⟩
def vFW (R sp : List (List D)) (a b : Int) : Vw := fun y K => wI y 6 fun v => wB y 7 fun p => wI y 8 fun i => K (stFW R sp a b v p i)
theorem vFW_ok (R sp : List (List D)) (a b : Int) : VwOK (vFW R sp a b) := fun y K h => by
  unfold vFW at h
  obtain ⟨v, h⟩ := wI_ex h
  obtain ⟨p, h⟩ := wB_ex h
  obtain ⟨i, h⟩ := wI_ex h
  exact ⟨_, h⟩
theorem rFW (R sp : List (List D)) (a b v : Int) (p : Bool) (i : Int) (N : X → Prop) (E : Exit → X → Prop) : (roundW Try.prog (hkA band bor [(54, sWMy)] []) Try.f49 0 [] [0, 1, 2, 6, 7, 8] [] (vFW R sp a b) (vFW R sp a b) N E (stFW R sp a b v p i)) = (bif decide (i < @Nat.cast Int _ (List.length R)) then bif okZ (3) R then bif wmay (toZ R) then bif decide (0 ≤ i) && decide (i < @Nat.cast Int _ (List.length R)) then bif isJ [IntKind.i64] (List.drop (0) (List.getD R (Int.toNat i) [])) then bif hdJ (List.drop (0) (List.getD R (Int.toNat i) [])) == a then bif decide (0 ≤ i) && decide (i < @Nat.cast Int _ (List.length R)) then bif isJ [IntKind.i64] (List.drop (1) (List.getD R (Int.toNat i) [])) then bif hdJ (List.drop (1) (List.getD R (Int.toNat i) [])) == b then bif decide (0 ≤ i) && decide (i < @Nat.cast Int _ (List.length R)) then bif isJ [IntKind.i64] (List.drop (2) (List.getD R (Int.toNat i) [])) then stFW R sp a b (hdJ (List.drop (2) (List.getD R (Int.toNat i) []))) true i = stFW R sp a b (hdJ (List.drop (2) (List.getD R (Int.toNat i) []))) true i ∧ E Exit.ret (stFW R sp a b (hdJ (List.drop (2) (List.getD R (Int.toNat i) []))) true i) else False else False else stFW R sp a b v p (IntKind.wrap IntKind.i64 (i + 1)) = stFW R sp a b v p (IntKind.wrap IntKind.i64 (i + 1)) ∧ N (stFW R sp a b v p (IntKind.wrap IntKind.i64 (i + 1))) else False else False else stFW R sp a b v p (IntKind.wrap IntKind.i64 (i + 1)) = stFW R sp a b v p (IntKind.wrap IntKind.i64 (i + 1)) ∧ N (stFW R sp a b v p (IntKind.wrap IntKind.i64 (i + 1))) else False else False else stFW R sp a b v p i = stFW R sp a b v p i ∧ E (Exit.exit (0)) (stFW R sp a b v p i) else False else stFW R sp a b v p i = stFW R sp a b v p i ∧ E (Exit.exit (0)) (stFW R sp a b v p i)) := by kernel_rfl
def stWA (R sp : List (List D)) (a : Int) (p : Bool) (i : Int) : X := ⟨mkT 21 [(0, aS 3 R sp), (1, ai a), (4, ab p), (5, ai i)], [], []⟩
def vWA (R sp : List (List D)) (a : Int) : Vw := fun y K => wB y 4 fun p => wI y 5 fun i => K (stWA R sp a p i)
theorem vWA_ok (R sp : List (List D)) (a : Int) : VwOK (vWA R sp a) := fun y K h => by
  unfold vWA at h
  obtain ⟨p, h⟩ := wB_ex h
  obtain ⟨i, h⟩ := wI_ex h
  exact ⟨_, h⟩
theorem rWA (R sp : List (List D)) (a : Int) (p : Bool) (i : Int) (N : X → Prop) (E : Exit → X → Prop) : (roundW Try.prog (hkA band bor [] []) Try.f52 0 [] [0, 1, 4, 5] [] (vWA R sp a) (vWA R sp a) N E (stWA R sp a p i)) = (bif decide (i < @Nat.cast Int _ (List.length R)) then bif decide (0 ≤ i) && decide (i < @Nat.cast Int _ (List.length R)) then bif isJ [IntKind.i64] (List.drop (0) (List.getD R (Int.toNat i) [])) then bif hdJ (List.drop (0) (List.getD R (Int.toNat i) [])) != a then stWA R sp a false i = stWA R sp a false i ∧ E Exit.ret (stWA R sp a false i) else stWA R sp a p (IntKind.wrap IntKind.i64 (i + 1)) = stWA R sp a p (IntKind.wrap IntKind.i64 (i + 1)) ∧ N (stWA R sp a p (IntKind.wrap IntKind.i64 (i + 1))) else False else False else stWA R sp a p i = stWA R sp a p i ∧ E (Exit.exit (0)) (stWA R sp a p i)) := by kernel_rfl
def stWW (R sp : List (List D)) (a b c : Int) (n m : Nat) (W : List (List D)) (p : Bool) (i : Int) : X := ⟨mkT 70 [(0, aS 3 R sp), (3, .c (.rp 4 0 3 0 0)), (6, .c (.rs 7 0 3 0 n m)), (7, ab p), (8, ai i)], [(4, .bx 0 3 [.d (vI a), .d (vI b), .d (vI c)]), (7, .sl 0 3 W)], []⟩
def vWW (R sp : List (List D)) (a b c : Int) : Vw := fun y K => aS' y 6 fun n m => wL y 7 fun W => wB y 7 fun p => wI y 8 fun i => K (stWW R sp a b c n m W p i)
theorem vWW_ok (R sp : List (List D)) (a b c : Int) : VwOK (vWW R sp a b c) := fun y K h => by
  unfold vWW at h
  obtain ⟨n, m, h⟩ := aS'_ex h
  obtain ⟨W, h⟩ := wL_ex h
  obtain ⟨p, h⟩ := wB_ex h
  obtain ⟨i, h⟩ := wI_ex h
  exact ⟨_, h⟩
theorem rWW (R sp : List (List D)) (a b c : Int) (n m : Nat) (W : List (List D)) (p : Bool) (i : Int) (N : X → Prop) (E : Exit → X → Prop) : (roundW Try.prog (hkA band bor [(87, sPl)] []) Try.f47 0 [] [0, 3, 6, 7, 8] [4, 7] (vWW R sp a b c) (vWW R sp a b c) N E (stWW R sp a b c n m W p i)) = (bif decide (i < @Nat.cast Int _ (List.length R)) then bif decide (0 ≤ i) && decide (i < @Nat.cast Int _ (List.length R)) then bif isJ [IntKind.i64] (List.drop (0) (List.getD R (Int.toNat i) [])) then bif decide (0 ≤ i) && decide (i < @Nat.cast Int _ (List.length R)) then bif isJ [IntKind.i64] (List.drop (1) (List.getD R (Int.toNat i) [])) then bif !p then bif decide (plc (hdJ (List.drop (0) (List.getD R (Int.toNat i) []))) (hdJ (List.drop (1) (List.getD R (Int.toNat i) []))) ≥ plc a b) then bif decide (n ≤ List.length W) && (decide ((n + 1) * 24 ≤ 140737488355328) && decide (n + 1 ≤ 9223372036854775807)) then bif plc (hdJ (List.drop (0) (List.getD R (Int.toNat i) []))) (hdJ (List.drop (1) (List.getD R (Int.toNat i) []))) != plc a b then bif decide (0 ≤ i) && decide (i < @Nat.cast Int _ (List.length R)) then bif isJ [IntKind.i64, IntKind.i64, IntKind.i64] (List.drop (0) (List.getD R (Int.toNat i) [])) then bif decide (n + 1 ≤ List.length (List.take n W ++ cut [[D.v (Value.int IntKind.i64 a), D.v (Value.int IntKind.i64 b), D.v (Value.int IntKind.i64 c)]] (0) (1))) && (decide ((n + 1 + 1) * 24 ≤ 140737488355328) && decide (n + 1 + 1 ≤ 9223372036854775807)) then stWW R sp a b c (n + 1 + 1) (n + 1 + 1) (List.take (n + 1) (List.take n W ++ cut [[D.v (Value.int IntKind.i64 a), D.v (Value.int IntKind.i64 b), D.v (Value.int IntKind.i64 c)]] (0) (1)) ++ cut [[D.v (Value.int IntKind.i64 (hdJ (List.drop (0) (List.getD R (Int.toNat i) [])))), D.v (Value.int IntKind.i64 (hdJ (List.tail (List.drop (0) (List.getD R (Int.toNat i) []))))), D.v (Value.int IntKind.i64 (hdJ (List.tail (List.tail (List.drop (0) (List.getD R (Int.toNat i) []))))))]] (0) (1)) true (IntKind.wrap IntKind.i64 (i + 1)) = stWW R sp a b c (n + 1 + 1) (n + 1 + 1) (List.take (n + 1) (List.take n W ++ cut [[D.v (Value.int IntKind.i64 a), D.v (Value.int IntKind.i64 b), D.v (Value.int IntKind.i64 c)]] (0) (1)) ++ cut [[D.v (Value.int IntKind.i64 (hdJ (List.drop (0) (List.getD R (Int.toNat i) [])))), D.v (Value.int IntKind.i64 (hdJ (List.tail (List.drop (0) (List.getD R (Int.toNat i) []))))), D.v (Value.int IntKind.i64 (hdJ (List.tail (List.tail (List.drop (0) (List.getD R (Int.toNat i) []))))))]] (0) (1)) true (IntKind.wrap IntKind.i64 (i + 1)) ∧ N (stWW R sp a b c (n + 1 + 1) (n + 1 + 1) (List.take (n + 1) (List.take n W ++ cut [[D.v (Value.int IntKind.i64 a), D.v (Value.int IntKind.i64 b), D.v (Value.int IntKind.i64 c)]] (0) (1)) ++ cut [[D.v (Value.int IntKind.i64 (hdJ (List.drop (0) (List.getD R (Int.toNat i) [])))), D.v (Value.int IntKind.i64 (hdJ (List.tail (List.drop (0) (List.getD R (Int.toNat i) []))))), D.v (Value.int IntKind.i64 (hdJ (List.tail (List.tail (List.drop (0) (List.getD R (Int.toNat i) []))))))]] (0) (1)) true (IntKind.wrap IntKind.i64 (i + 1))) else False else False else False else stWW R sp a b c (n + 1) (n + 1) (List.take n W ++ cut [[D.v (Value.int IntKind.i64 a), D.v (Value.int IntKind.i64 b), D.v (Value.int IntKind.i64 c)]] (0) (1)) true (IntKind.wrap IntKind.i64 (i + 1)) = stWW R sp a b c (n + 1) (n + 1) (List.take n W ++ cut [[D.v (Value.int IntKind.i64 a), D.v (Value.int IntKind.i64 b), D.v (Value.int IntKind.i64 c)]] (0) (1)) true (IntKind.wrap IntKind.i64 (i + 1)) ∧ N (stWW R sp a b c (n + 1) (n + 1) (List.take n W ++ cut [[D.v (Value.int IntKind.i64 a), D.v (Value.int IntKind.i64 b), D.v (Value.int IntKind.i64 c)]] (0) (1)) true (IntKind.wrap IntKind.i64 (i + 1))) else False else bif plc (hdJ (List.drop (0) (List.getD R (Int.toNat i) []))) (hdJ (List.drop (1) (List.getD R (Int.toNat i) []))) != plc a b then bif decide (0 ≤ i) && decide (i < @Nat.cast Int _ (List.length R)) then bif isJ [IntKind.i64, IntKind.i64, IntKind.i64] (List.drop (0) (List.getD R (Int.toNat i) [])) then bif decide (n ≤ List.length W) && (decide ((n + 1) * 24 ≤ 140737488355328) && decide (n + 1 ≤ 9223372036854775807)) then stWW R sp a b c (n + 1) (n + 1) (List.take n W ++ cut [[D.v (Value.int IntKind.i64 (hdJ (List.drop (0) (List.getD R (Int.toNat i) [])))), D.v (Value.int IntKind.i64 (hdJ (List.tail (List.drop (0) (List.getD R (Int.toNat i) []))))), D.v (Value.int IntKind.i64 (hdJ (List.tail (List.tail (List.drop (0) (List.getD R (Int.toNat i) []))))))]] (0) (1)) p (IntKind.wrap IntKind.i64 (i + 1)) = stWW R sp a b c (n + 1) (n + 1) (List.take n W ++ cut [[D.v (Value.int IntKind.i64 (hdJ (List.drop (0) (List.getD R (Int.toNat i) [])))), D.v (Value.int IntKind.i64 (hdJ (List.tail (List.drop (0) (List.getD R (Int.toNat i) []))))), D.v (Value.int IntKind.i64 (hdJ (List.tail (List.tail (List.drop (0) (List.getD R (Int.toNat i) []))))))]] (0) (1)) p (IntKind.wrap IntKind.i64 (i + 1)) ∧ N (stWW R sp a b c (n + 1) (n + 1) (List.take n W ++ cut [[D.v (Value.int IntKind.i64 (hdJ (List.drop (0) (List.getD R (Int.toNat i) [])))), D.v (Value.int IntKind.i64 (hdJ (List.tail (List.drop (0) (List.getD R (Int.toNat i) []))))), D.v (Value.int IntKind.i64 (hdJ (List.tail (List.tail (List.drop (0) (List.getD R (Int.toNat i) []))))))]] (0) (1)) p (IntKind.wrap IntKind.i64 (i + 1))) else False else False else False else stWW R sp a b c n m W p (IntKind.wrap IntKind.i64 (i + 1)) = stWW R sp a b c n m W p (IntKind.wrap IntKind.i64 (i + 1)) ∧ N (stWW R sp a b c n m W p (IntKind.wrap IntKind.i64 (i + 1))) else bif plc (hdJ (List.drop (0) (List.getD R (Int.toNat i) []))) (hdJ (List.drop (1) (List.getD R (Int.toNat i) []))) != plc a b then bif decide (0 ≤ i) && decide (i < @Nat.cast Int _ (List.length R)) then bif isJ [IntKind.i64, IntKind.i64, IntKind.i64] (List.drop (0) (List.getD R (Int.toNat i) [])) then bif decide (n ≤ List.length W) && (decide ((n + 1) * 24 ≤ 140737488355328) && decide (n + 1 ≤ 9223372036854775807)) then stWW R sp a b c (n + 1) (n + 1) (List.take n W ++ cut [[D.v (Value.int IntKind.i64 (hdJ (List.drop (0) (List.getD R (Int.toNat i) [])))), D.v (Value.int IntKind.i64 (hdJ (List.tail (List.drop (0) (List.getD R (Int.toNat i) []))))), D.v (Value.int IntKind.i64 (hdJ (List.tail (List.tail (List.drop (0) (List.getD R (Int.toNat i) []))))))]] (0) (1)) p (IntKind.wrap IntKind.i64 (i + 1)) = stWW R sp a b c (n + 1) (n + 1) (List.take n W ++ cut [[D.v (Value.int IntKind.i64 (hdJ (List.drop (0) (List.getD R (Int.toNat i) [])))), D.v (Value.int IntKind.i64 (hdJ (List.tail (List.drop (0) (List.getD R (Int.toNat i) []))))), D.v (Value.int IntKind.i64 (hdJ (List.tail (List.tail (List.drop (0) (List.getD R (Int.toNat i) []))))))]] (0) (1)) p (IntKind.wrap IntKind.i64 (i + 1)) ∧ N (stWW R sp a b c (n + 1) (n + 1) (List.take n W ++ cut [[D.v (Value.int IntKind.i64 (hdJ (List.drop (0) (List.getD R (Int.toNat i) [])))), D.v (Value.int IntKind.i64 (hdJ (List.tail (List.drop (0) (List.getD R (Int.toNat i) []))))), D.v (Value.int IntKind.i64 (hdJ (List.tail (List.tail (List.drop (0) (List.getD R (Int.toNat i) []))))))]] (0) (1)) p (IntKind.wrap IntKind.i64 (i + 1))) else False else False else False else stWW R sp a b c n m W p (IntKind.wrap IntKind.i64 (i + 1)) = stWW R sp a b c n m W p (IntKind.wrap IntKind.i64 (i + 1)) ∧ N (stWW R sp a b c n m W p (IntKind.wrap IntKind.i64 (i + 1))) else False else False else False else False else stWW R sp a b c n m W p i = stWW R sp a b c n m W p i ∧ E (Exit.exit (0)) (stWW R sp a b c n m W p i)) := by kernel_rfl
/-! ### Find -/
def isT (a b : Int) (r : List Int) : Bool := bif r.getD 0 0 == a then r.getD 1 0 == b else false
def fdV (l : List (List Int)) (a b : Int) : Int := bif wmay l then (match l.find? (isT a b) with | some r => r.getD 2 0 | none => 0) else 0
def fdB (l : List (List Int)) (a b : Int) : Bool := bif wmay l then l.any (isT a b) else false
theorem firstAt.find? {α : Type} {l : List α} {d : α} {p : α → Bool} {i : Nat} (h : firstAt (fun i => p (l.getD i d)) l.length i) : l.find? p = some (l.getD i d) := by
  obtain ⟨h1, h2, h3⟩ := h
  rw [List.find?_eq_some_iff_getElem]
  have e : ∀ j (hj : j < l.length), l.getD j d = l[j] := fun j hj => by simp [List.getD_eq_getElem?_getD, hj]
  refine ⟨h2, i, h1, (e i h1).symm, fun j hj => ?_⟩
  have := h3 j hj
  simp only at this
  rw [e j (Nat.lt_trans hj h1)] at this
  simp [this]
theorem noneTo.find? {α : Type} {l : List α} {d : α} {p : α → Bool} (h : noneTo (fun i => p (l.getD i d)) l.length) : l.find? p = none := by
  rw [List.find?_eq_none]
  intro x hx
  obtain ⟨j, hj, rfl⟩ := List.mem_iff_getElem.1 hx
  have := h j hj
  simpa [List.getD_eq_getElem?_getD, hj] using this
theorem ior_zero {x y : Int} : ior x y = 0 ↔ x = 0 ∧ y = 0 := by
  unfold ior
  cases h : (x != 0) with
  | true => have : x ≠ 0 := by simpa using h
            simp only [cond_true]; omega
  | false => have : x = 0 := by simpa using h
             simp only [cond_false]; omega
theorem isT_iff {a b : Int} {r : List Int} : isT a b r = true ↔ r.getD 0 0 = a ∧ r.getD 1 0 = b := by
  unfold isT
  by_cases h : r.getD 0 0 = a
  · simp [h]
  · have : (r.getD 0 0 == a) = false := by simpa using h
    rw [this]; simp only [cond_false]
    exact ⟨fun h' => (Bool.noConfusion h'), fun h' => (h h'.1).elim⟩
theorem get_le {l : List (List Int)} (h : okWs l) {i : Nat} (hi : i < l.length) {k : Int} (hk : key (l.getD i []) = k) : lessW l k = i := by
  have hle := lessW_le l k
  rcases Nat.lt_trichotomy (lessW l k) i with h1 | h1 | h1
  · have h2 := lessW_at (l := l) (k := k) (by omega)
    have h3 := okWs_lt h _ _ h1 hi
    omega
  · exact h1
  · have := lessW_lt h1; omega
theorem isW_T {l : List (List Int)} (h : okWs l) {a b : Int} (ha : -9223372036854775808 ≤ a ∧ a ≤ 9223372036854775807) (hb : -9223372036854775808 ≤ b ∧ b ≤ 9223372036854775807) :
    (isW l a b = true → bsAt (ltW l a b) l.length < l.length ∧ isT a b (l.getD (bsAt (ltW l a b) l.length) []) = true) ∧ (∀ i, i < l.length → isT a b (l.getD i []) = true → isW l a b = true ∧ bsAt (ltW l a b) l.length = i) := by
  constructor
  · intro hw
    unfold isW at hw
    generalize bsAt (ltW l a b) l.length = m at *
    by_cases hl : m < l.length
    · rw [decide_eq_true hl] at hw
      have hr := (okw_in (h m hl).1).1
      obtain ⟨⟨r1, r2⟩, r3, r4⟩ := hr
      have h0 : rw3 (l.getD m []) a b = 0 := by simpa using hw
      unfold rw3 at h0
      obtain ⟨h1, h2⟩ := ior_zero.1 h0
      rw [IntKind.wrap_i64] at h1 h2
      exact ⟨hl, isT_iff.2 ⟨by omega, by omega⟩⟩
    · rw [decide_eq_false hl] at hw; cases hw
  · intro i hi ht
    obtain ⟨h1, h2⟩ := isT_iff.1 ht
    have hr := (okw_in (h i hi).1).1
    obtain ⟨r1, r3⟩ := hr
    rw [h1] at r1
    rw [h2] at r3
    have hk : key (l.getD i []) = 4 * a + b := by unfold key; rw [h1, h2]
    have hm := get_le h hi hk
    rw [isW_has h r1 r3, bsAt_less h r1 r3, hm]
    refine ⟨?_, rfl⟩
    unfold hasW
    rw [hm, decide_eq_true hi, hk]; simp
def in64 (x : Int) : Bool := decide (-9223372036854775808 ≤ x) && decide (x ≤ 9223372036854775807)
theorem in64_spec {x : Int} (h : in64 x = true) : -9223372036854775808 ≤ x ∧ x ≤ 9223372036854775807 := by unfold in64 at h; simpa using h
def sFnd : Spec := fun ds Q => match ds with
  | [.c (.s 0 3 R sp), .c (.v (.int .i64 a)), .c (.v (.int .i64 b))] => cond (okZ 3 R && (decide (R.length ≤ 4611686018427387903) && (in64 a && in64 b))) (Q (.tup [I (fdV (toZ R) a b), B (fdB (toZ R) a b)])) False
  | _ => False
theorem fnd_ct {l : List (List Int)} {sp : List (List D)} {a b : Int} (hw : wid 3 l) (hn : l.length ≤ 9223372036854775807) (hn2 : l.length ≤ 4611686018427387903) (ha : -9223372036854775808 ≤ a ∧ a ≤ 9223372036854775807) (hb : -9223372036854775808 ≤ b ∧ b ≤ 9223372036854775807) (K : DV → Prop)
    (hK : K (.tup [I (fdV l a b), B (fdB l a b)])) : ask Try.prog [(53, sWMy), (84, sBSF)] Try.f48 [dS 3 (mZ l) sp, I a, I b] K := by
  rw [eFind]
  have hk : okZ 3 (mZ l) = true := okZ_mZ hw hn
  have hL : decide (List.length (mZ l) ≤ 4611686018427387903) = true := by rw [mZ_len]; exact decide_eq_true hn2
  unfold fdV fdB at hK
  simp only [hk, hL, cond_true, toZ_mZ, Bool.and_self]
  cases hm : wmay l with
  | false => rw [hm] at hK; exact hK
  | true =>
    rw [hm] at hK
    obtain ⟨h16, hws⟩ := (wmay_iff l).1 hm
    obtain ⟨t1, t2⟩ := isW_T hws ha hb
    simp only [cond_true, Bool.not_true, cond_false] at hK ⊢
    cases hi : isW l a b with
    | false =>
      have hno : ∀ i, i < l.length → isT a b (l.getD i []) = false := fun i hil => by
        cases h : isT a b (l.getD i []) with
        | false => rfl
        | true => rw [(t2 i hil h).1] at hi; cases hi
      have e1 : l.find? (isT a b) = none := noneTo.find? (d := []) hno
      have e2 : l.any (isT a b) = false := noneTo.any (d := []) hno
      rw [e1, e2] at hK
      exact hK
    | true =>
      obtain ⟨u1, u2⟩ := t1 hi
      generalize bsAt (ltW l a b) l.length = m at *
      have hf : firstAt (fun i => isT a b (l.getD i [])) l.length m := ⟨u1, u2, fun j hj => by
        cases h : isT a b (l.getD j []) with
        | false => exact h
        | true => have := (t2 j (by omega) h).2; omega⟩
      have e1 : l.find? (isT a b) = some (l.getD m []) := hf.find?
      have e2 : l.any (isT a b) = true := hf.any
      rw [e1, e2] at hK
      have hj2 : isJ [IntKind.i64] (((mZ l).getD m []).drop 2) = true := isJ_mZ1 (j := 2) hw u1 (by omega)
      simp only [mZ_len, Int.ofNat_lt, u1, decide_true, cond_true, Int.natCast_nonneg, Bool.and_self, Int.toNat_natCast, hj2, hdJ_mZ]
      exact hK
theorem oFnd : SpecOK Try.prog 48 sFnd := o_of Try.func48 (by kernel_rfl) rfl fun ds Q h => by
  unfold sFnd at h; split at h
  · rename_i R sp a b
    obtain ⟨h1, h2⟩ := cond_P h
    simp only [Bool.and_eq_true, decide_eq_true_eq] at h1
    obtain ⟨q1, q2, q3, q4⟩ := h1
    obtain ⟨e1, w1, n1⟩ := okZ_spec q1
    rw [e1]
    rw [← toZ_len R] at n1 q2
    generalize toZ R = l at *
    exact ⟨_, ct_ask (.cons oWMy (.cons oBSF .nil)) mixed Try.func48 rfl rfl rfl (fnd_ct w1 n1 q2 (in64_spec q3) (in64_spec q4) _ rfl), rfl, rfl, h2⟩
  · exact h.elim
/-! ### At -/
def atW (l : List (List Int)) (a : Int) : Bool := bif wmay l then !l.any (neL a) else false
def sAtW : Spec := fun ds Q => match ds with
  | [.c (.s 0 3 R sp), .c (.v (.int .i64 a))] => cond (okZ 3 R) (Q (B (atW (toZ R) a))) False
  | _ => False
theorem oAtW : SpecOK Try.prog 51 sAtW := o_of Try.func51 (by kernel_rfl) rfl fun ds Q h => by
  unfold sAtW at h; split at h
  · rename_i R sp a
    obtain ⟨h1, h2⟩ := cond_P h
    refine ⟨_, ct_ask (.cons oWMy (.cons oCoNe .nil)) mixed Try.func51 rfl rfl rfl ?_, rfl, rfl, h2⟩
    rw [eAt, h1]; unfold atW
    cases wmay (toZ R) <;> rfl
  · exact h.elim
/-! ### the references -/
def fFW (l : List (List Int)) (sp : List (List D)) (a b : Int) : LSum := findS [0, 1, 2, 6, 7, 8] [] (fun i => stFW (mZ l) sp a b 0 false i) (fun i => stFW (mZ l) sp a b ((l.getD i []).getD 2 0) true i) l.length (fun i => isT a b (l.getD i [])) .ret (.exit 0)
def fFWn (l : List (List Int)) (sp : List (List D)) (a b : Int) : LSum := findS [0, 1, 2, 6, 7, 8] [] (fun i => stFW (mZ l) sp a b 0 false i) (fun i => stFW (mZ l) sp a b 0 false i) 0 (fun _ => false) .ret (.exit 0)
theorem kFW {l : List (List Int)} {sp : List (List D)} {a b : Int} (hw : wid 3 l) (hn : l.length ≤ 9223372036854775807) (hm : wmay l = true) (Q : Exit → X → Prop) (x : X) (h : fFW l sp a b Q x) : XWP Try.prog (.loop (bodyL Try.f49 0)) Q x := by
  refine xwp_find (H := hkA band bor [(54, sWMy)] []) (sw := []) (V := vFW (mZ l) sp a b) (VE := vFW (mZ l) sp a b) (hkl_ok (.cons oWPy .nil)) mixed (loops_nil rfl) (vFW_ok (mZ l) sp a b) (vFW_ok (mZ l) sp a b) _ _ _ _ _ _ (fun i hl N E h1 h2 => ?_) (fun N E h1 => ?_) Q x h
  · rw [rFW]
    have wi : IntKind.wrap .i64 ((i : Int) + 1) = ((i + 1 : Nat) : Int) := wrap_nat (n := 1) (by omega)
    have hk : okZ 3 (mZ l) = true := okZ_mZ hw hn
    have hj0 : isJ [IntKind.i64] (((mZ l).getD i [])) = true := isJ_mZ1 (j := 0) hw hl (by omega)
    have hj1 : isJ [IntKind.i64] (((mZ l).getD i []).drop 1) = true := isJ_mZ1 (j := 1) hw hl (by omega)
    have hj2 : isJ [IntKind.i64] (((mZ l).getD i []).drop 2) = true := isJ_mZ1 (j := 2) hw hl (by omega)
    simp only [mZ_len, Int.ofNat_lt, hl, decide_true, cond_true, Int.natCast_nonneg, Bool.and_self, Int.toNat_natCast, hj0, hj1, hj2, hk, hm, toZ_mZ, List.drop_zero, hdJ_mZ0, hdJ_mZ, true_and, wi]
    unfold isT at h1 h2
    cases p1 : ((l.getD i []).getD 0 0 == a) with
    | false => rw [p1] at h2; exact h2 rfl
    | true =>
      rw [p1] at h1 h2
      cases p2 : ((l.getD i []).getD 1 0 == b) with
      | false => rw [p2] at h2; exact h2 rfl
      | true => rw [p2] at h1; exact h1 rfl
  · rw [rFW]
    simp only [mZ_len, Int.ofNat_lt, Nat.lt_irrefl, decide_false, cond_false, true_and]
    exact h1
theorem kFWn {l : List (List Int)} {sp : List (List D)} {a b : Int} (hw : wid 3 l) (hn : l.length ≤ 9223372036854775807) (hm : wmay l = false) (Q : Exit → X → Prop) (x : X) (h : fFWn l sp a b Q x) : XWP Try.prog (.loop (bodyL Try.f49 0)) Q x := by
  refine xwp_find (H := hkA band bor [(54, sWMy)] []) (sw := []) (V := vFW (mZ l) sp a b) (VE := vFW (mZ l) sp a b) (hkl_ok (.cons oWPy .nil)) mixed (loops_nil rfl) (vFW_ok (mZ l) sp a b) (vFW_ok (mZ l) sp a b) _ _ _ _ _ _ (fun i hl N E h1 h2 => by omega) (fun N E h1 => ?_) Q x h
  rw [rFW]
  have hk : okZ 3 (mZ l) = true := okZ_mZ hw hn
  simp only [hk, hm, toZ_mZ, cond_true, cond_false, true_and]
  cases decide (((0 : Nat) : Int) < ((List.length (mZ l) : Nat) : Int)) <;> exact h1
theorem eFW (l : List (List Int)) (sp : List (List D)) (a b : Int) (K : DV → Prop) : (askL Try.prog [] [(2, fFW l sp a b)] Try.f49 [dS 3 (mZ l) sp, I a, I b] K) = (stFW (mZ l) sp a b (0) false (0) = stFW (mZ l) sp a b (0) false (0) ∧ (∀ (i : Nat), firstAt (fun i => isT a b (List.getD l i [])) (List.length l) i → K (DV.tup [DV.c (D.v (Value.int IntKind.i64 (List.getD (List.getD l i []) (2) (0)))), DV.c (D.v (Value.bool true))])) ∧ (noneTo (fun i => isT a b (List.getD l i [])) (List.length l) → K (DV.tup [DV.c (D.v (Value.int IntKind.i64 (0))), DV.c (D.v (Value.bool false))]))) := by kernel_rfl
theorem eFWn (l : List (List Int)) (sp : List (List D)) (a b : Int) (K : DV → Prop) : (askL Try.prog [] [(2, fFWn l sp a b)] Try.f49 [dS 3 (mZ l) sp, I a, I b] K) = (stFW (mZ l) sp a b (0) false (0) = stFW (mZ l) sp a b (0) false (0) ∧ (∀ (i : Nat), firstAt (fun x => false) (0) i → K (DV.tup [DV.c (D.v (Value.int IntKind.i64 (0))), DV.c (D.v (Value.bool false))])) ∧ (noneTo (fun x => false) (0) → K (DV.tup [DV.c (D.v (Value.int IntKind.i64 (0))), DV.c (D.v (Value.bool false))]))) := by kernel_rfl
def sRFd : Spec := fun ds Q => match ds with
  | [.c (.s 0 3 R sp), .c (.v (.int .i64 a)), .c (.v (.int .i64 b))] => cond (okZ 3 R) (Q (.tup [I (fdV (toZ R) a b), B (fdB (toZ R) a b)])) False
  | _ => False
theorem oRFd : SpecOK Try.prog 49 sRFd := o_of Try.func49 (by kernel_rfl) rfl fun ds Q h => by
  unfold sRFd at h; split at h
  · rename_i R sp a b
    obtain ⟨h1, h2⟩ := cond_P h
    obtain ⟨e1, w1, n1⟩ := okZ_spec h1
    rw [e1]
    rw [← toZ_len R] at n1
    generalize toZ R = l at *
    refine ⟨.tup [I (fdV l a b), B (fdB l a b)], ?_, rfl, rfl, h2⟩
    cases hm : wmay l with
    | true =>
      refine ct_askL (l := []) (m := [(2, fFW l sp a b)]) .nil mixed (loops1 rfl (by kernel_rfl) (kFW w1 n1 hm)) Try.func49 rfl rfl rfl ?_
      rw [eFW]; unfold fdV fdB; rw [hm]
      refine ⟨rfl, fun i hi => ?_, fun hn => ?_⟩
      · rw [hi.find?, hi.any]; rfl
      · rw [hn.find?, hn.any]; rfl
    | false =>
      refine ct_askL (l := []) (m := [(2, fFWn l sp a b)]) .nil mixed (loops1 rfl (by kernel_rfl) (kFWn w1 n1 hm)) Try.func49 rfl rfl rfl ?_
      rw [eFWn]; unfold fdV fdB; rw [hm]
      exact ⟨rfl, fun i hi => by obtain ⟨h, _⟩ := hi; omega, fun _ => rfl⟩
  · exact h.elim
def fWA (l : List (List Int)) (sp : List (List D)) (a : Int) : LSum := findS [0, 1, 4, 5] [] (fun i => stWA (mZ l) sp a false i) (fun i => stWA (mZ l) sp a false i) l.length (fun i => neL a (l.getD i [])) .ret (.exit 0)
theorem kWA {l : List (List Int)} {sp : List (List D)} {a : Int} (hw : wid 3 l) (hn : l.length ≤ 9223372036854775807) (Q : Exit → X → Prop) (x : X) (h : fWA l sp a Q x) : XWP Try.prog (.loop (bodyL Try.f52 0)) Q x := by
  refine xwp_find (H := hkA band bor [] []) (sw := []) (V := vWA (mZ l) sp a) (VE := vWA (mZ l) sp a) (hkl_ok .nil) mixed (loops_nil rfl) (vWA_ok (mZ l) sp a) (vWA_ok (mZ l) sp a) _ _ _ _ _ _ (fun i hl N E h1 h2 => ?_) (fun N E h1 => ?_) Q x h
  · rw [rWA]
    have wi : IntKind.wrap .i64 ((i : Int) + 1) = ((i + 1 : Nat) : Int) := wrap_nat (n := 1) (by omega)
    have hj0 : isJ [IntKind.i64] (((mZ l).getD i [])) = true := isJ_mZ1 (j := 0) hw hl (by omega)
    simp only [mZ_len, Int.ofNat_lt, hl, decide_true, cond_true, Int.natCast_nonneg, Bool.and_self, Int.toNat_natCast, hj0, List.drop_zero, hdJ_mZ0, true_and, wi]
    unfold neL at h1 h2
    cases p1 : ((l.getD i []).getD 0 0 != a) with
    | false => rw [p1] at h2; exact h2 rfl
    | true => rw [p1] at h1; exact h1 rfl
  · rw [rWA]
    simp only [mZ_len, Int.ofNat_lt, Nat.lt_irrefl, decide_false, cond_false, true_and]
    exact h1
theorem eWA (l : List (List Int)) (sp : List (List D)) (a : Int) (K : DV → Prop) : (askL Try.prog [(54, sWMy)] [(2, fWA l sp a)] Try.f52 [dS 3 (mZ l) sp, I a] K) = (stWA (mZ l) sp a false (0) = stWA (mZ l) sp a false (0) ∧ (∀ (i : Nat), firstAt (fun i => neL a (List.getD l i [])) (List.length l) i → K (DV.c (D.v (Value.bool false)))) ∧ (noneTo (fun i => neL a (List.getD l i [])) (List.length l) → bif okZ (3) (mZ l) then K (DV.c (D.v (Value.bool (wmay (toZ (mZ l)))))) else False)) := by kernel_rfl
theorem oRWA : SpecOK Try.prog 52 sAtW := o_of Try.func52 (by kernel_rfl) rfl fun ds Q h => by
  unfold sAtW at h; split at h
  · rename_i R sp a
    obtain ⟨h1, h2⟩ := cond_P h
    obtain ⟨e1, w1, n1⟩ := okZ_spec h1
    rw [e1]
    rw [← toZ_len R] at n1
    generalize toZ R = l at *
    refine ⟨.c (.v (.bool (atW l a))), ?_, rfl, rfl, h2⟩
    refine ct_askL (l := [(54, sWMy)]) (m := [(2, fWA l sp a)]) (.cons oWPy .nil) mixed (loops1 rfl (by kernel_rfl) (kWA w1 n1)) Try.func52 rfl rfl rfl ?_
    rw [eWA]
    have hk : okZ 3 (mZ l) = true := okZ_mZ w1 n1
    unfold atW
    refine ⟨rfl, fun i hi => ?_, fun hn => ?_⟩
    · rw [hi.any]; cases wmay l <;> rfl
    · rw [hn.any]; simp only [hk, toZ_mZ, cond_true]; cases wmay l <;> rfl
  · exact h.elim
end Vm
