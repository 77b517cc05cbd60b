/- What the functions of this text do, told by an interpreter that is proved right (YtdfehiebnempaaaGA to GD). My own work. -/
import Derived.Test.YtdfehiebnempaaaGWsE
namespace Vm
open Go Go.Proofs
set_option linter.unusedSimpArgs false
set_option linter.unusedVariables false
set_option maxRecDepth 100000
/-! ### WithWrite -/
def stepW (k : Int) (r : List Int) (s : List (List Int) × Bool) (x : List Int) : List (List Int) × Bool :=
  let o := bif !s.2 then (bif decide (key x ≥ k) then s.1 ++ [r] else s.1) else s.1
  (bif key x != k then o ++ [x] else o, s.2 || decide (key x ≥ k))
def foldW (l : List (List Int)) (r : List Int) (i : Nat) : List (List Int) × Bool := (l.take i).foldl (stepW (key r) r) ([], false)
theorem take_get {l : List (List Int)} {i : Nat} (h : i < l.length) : l.take (i + 1) = l.take i ++ [l.getD i []] := by
  rw [List.take_add_one]
  simp [List.getD_eq_getElem?_getD, h]
theorem foldW_succ {l : List (List Int)} {r : List Int} {i : Nat} (h : i < l.length) : foldW l r (i + 1) = stepW (key r) r (foldW l r i) (l.getD i []) := by
  unfold foldW
  rw [take_get h, List.foldl_append]; rfl
theorem foldW_lo {l : List (List Int)} {r : List Int} : ∀ i, i ≤ lessW l (key r) → foldW l r i = (l.take i, false)
  | 0, _ => rfl
  | i + 1, h => by
    have hl : i < l.length := Nat.lt_of_lt_of_le h (lessW_le _ _)
    rw [foldW_succ hl, foldW_lo i (by omega), take_get hl]
    have hk := lessW_lt h
    have h1 : decide (key (l.getD i []) ≥ key r) = false := decide_eq_false (by omega)
    have h2 : (key (l.getD i []) != key r) = true := by
      have : key (l.getD i []) ≠ key r := by omega
      simpa using this
    simp only [stepW, h1, h2, Bool.not_false, cond_true, cond_false, Bool.or_false]
theorem foldW_hi {l : List (List Int)} {r : List Int} (hws : okWs l) (hm : lessW l (key r) < l.length) : ∀ d, lessW l (key r) + 1 + d ≤ l.length →
    foldW l r (lessW l (key r) + 1 + d) = (l.take (lessW l (key r)) ++ r :: (l.take (lessW l (key r) + 1 + d)).drop (bif hasW l (key r) then lessW l (key r) + 1 else lessW l (key r)), true)
  | 0, h => by
    rw [Nat.add_zero, foldW_succ hm, foldW_lo _ (Nat.le_refl _)]
    have hk := lessW_at hm
    have h1 : decide (key (l.getD (lessW l (key r)) []) ≥ key r) = true := decide_eq_true (by omega)
    simp only [stepW, h1, Bool.not_false, cond_true, Bool.or_true]
    have hh : hasW l (key r) = decide (key (l.getD (lessW l (key r)) []) = key r) := by unfold hasW; rw [decide_eq_true hm, Bool.true_and]
    rw [hh]
    by_cases e : key (l.getD (lessW l (key r)) []) = key r
    · have h2 : (key (l.getD (lessW l (key r)) []) != key r) = false := by rw [e]; simp
      rw [h2, decide_eq_true e]
      simp only [cond_true, cond_false]
      rw [List.drop_eq_nil_of_le (by rw [List.length_take]; omega)]
    · have h2 : (key (l.getD (lessW l (key r)) []) != key r) = true := by simpa using e
      rw [h2, decide_eq_false e]
      simp only [cond_true, cond_false]
      rw [take_get hm, List.drop_append_of_le_length (by rw [List.length_take]; omega), List.drop_eq_nil_of_le (by rw [List.length_take]; omega)]
      simp
  | d + 1, h => by
    have hl : lessW l (key r) + 1 + d < l.length := by omega
    have ih := foldW_hi hws hm d (by omega)
    rw [show lessW l (key r) + 1 + (d + 1) = (lessW l (key r) + 1 + d) + 1 by omega, foldW_succ hl, ih]
    have hk := lessW_at hm
    have hk2 := okWs_lt hws (lessW l (key r)) (lessW l (key r) + 1 + d) (by omega) hl
    have h2 : (key (l.getD (lessW l (key r) + 1 + d) []) != key r) = true := by
      have : key (l.getD (lessW l (key r) + 1 + d) []) ≠ key r := by omega
      simpa using this
    simp only [stepW, h2, Bool.not_true, cond_true, cond_false, Bool.true_or]
    rw [take_get hl, List.drop_append_of_le_length (by rw [List.length_take]; cases hasW l (key r) <;> simp only [cond_true, cond_false] <;> omega)]
    simp
theorem foldW_put {l : List (List Int)} {r : List Int} (hws : okWs l) : (bif (foldW l r l.length).2 then (foldW l r l.length).1 else (foldW l r l.length).1 ++ [r]) = putW l r := by
  unfold putW
  rcases Nat.lt_or_ge (lessW l (key r)) l.length with hm | hm
  · have h := foldW_hi (r := r) hws hm (l.length - (lessW l (key r) + 1)) (by omega)
    rw [show lessW l (key r) + 1 + (l.length - (lessW l (key r) + 1)) = l.length by omega] at h
    rw [h]
    simp only [cond_true, List.take_length]
  · have e : lessW l (key r) = l.length := Nat.le_antisymm (lessW_le _ _) hm
    have h := foldW_lo (l := l) (r := r) l.length (by omega)
    have hh : hasW l (key r) = false := by unfold hasW; rw [decide_eq_false (by omega)]; rfl
    rw [h, hh, e]
    simp
theorem foldW_len {l : List (List Int)} {r : List Int} : ∀ i, i ≤ l.length → (foldW l r i).1.length ≤ 2 * i
  | 0, _ => by simp [foldW]
  | i + 1, h => by
    rw [foldW_succ h]
    have ih := foldW_len (l := l) (r := r) i (by omega)
    generalize foldW l r i = s at ih ⊢
    obtain ⟨W, d⟩ := s
    unfold stepW
    simp only at ih ⊢
    cases d <;> cases decide (key (l.getD i []) ≥ key r) <;> cases (key (l.getD i []) != key r) <;> simp <;> omega
theorem foldW_wid {l : List (List Int)} {r : List Int} (hw : wid 3 l) (hr : r.length = 3) : ∀ i, i ≤ l.length → wid 3 (foldW l r i).1
  | 0, _ => by simp [foldW, wid]
  | i + 1, h => by
    rw [foldW_succ h]
    have ih := foldW_wid hw hr i (by omega)
    have hx := wid_get hw h
    have ha : ∀ (s : List (List Int)) (x : List Int), wid 3 s → x.length = 3 → wid 3 (s ++ [x]) := fun s x h1 h2 y hy => by
      rcases List.mem_append.1 hy with hy | hy
      · exact h1 y hy
      · rw [List.mem_singleton.1 hy]; exact h2
    unfold stepW
    cases (foldW l r i).2 <;> cases decide (key (l.getD i []) ≥ key r) <;> cases (key (l.getD i []) != key r) <;> simp only [Bool.not_false, Bool.not_true, cond_true, cond_false] <;> first
      | exact ih
      | exact ha _ _ ih hr
      | exact ha _ _ ih hx
      | exact ha _ _ (ha _ _ ih hr) hx
def fWW (l : List (List Int)) (sp : List (List D)) (a b c : Int) : LSum := fun Q x => x.arr [0, 3, 6, 7, 8] [4, 7] = stWW (mZ l) sp a b c 0 0 [] false 0 ∧ ∀ i, Q (.exit 0) (stWW (mZ l) sp a b c (foldW l [a, b, c] l.length).1.length (foldW l [a, b, c] l.length).1.length (mZ (foldW l [a, b, c] l.length).1) (foldW l [a, b, c] l.length).2 i)
theorem kWW {l : List (List Int)} {sp : List (List D)} {a b c : Int} (hw : wid 3 l) (hm : wmay l = true) (ho : okw [a, b, c] = true) (Q : Exit → X → Prop) (x : X) (h : fWW l sp a b c Q x) : XWP Try.prog (.loop (bodyL Try.f47 0)) Q x := by
  obtain ⟨h1, h2⟩ := h
  obtain ⟨h16, hws⟩ := (wmay_iff l).1 hm
  refine xwp_roundW (ι := Nat) (H := hkA band bor [(87, sPl)] []) [] (hkl_ok (.cons oPl .nil)) mixed (loops_nil rfl) (fun i => stWW (mZ l) sp a b c (foldW l [a, b, c] i).1.length (foldW l [a, b, c] i).1.length (mZ (foldW l [a, b, c] i).1) (foldW l [a, b, c] i).2 i) (fun i => i ≤ l.length) (fun i => l.length - i) 0 (vWW (mZ l) sp a b c) (vWW (mZ l) sp a b c) (vWW_ok _ _ _ _ _) (vWW_ok _ _ _ _ _) (fun i hi => ?_) (Nat.zero_le _) h1
  rw [rWW]
  by_cases hl : i < l.length
  · have wi : IntKind.wrap .i64 ((i : Int) + 1) = ((i + 1 : Nat) : Int) := wrap_nat (n := 1) (by omega)
    have hj0 : isJ [IntKind.i64] (((mZ l).getD i [])) = true := isJ_mZ1 (j := 0) hw hl (by omega)
    have hj1 : isJ [IntKind.i64] (((mZ l).getD i []).drop 1) = true := isJ_mZ1 (j := 1) hw hl (by omega)
    have hj : isJ [IntKind.i64, IntKind.i64, IntKind.i64] (((mZ l).getD i [])) = true := isJ_mZ (j := 0) (n := 3) hw hl (by omega)
    have hp1 : plc ((l.getD i []).getD 0 0) ((l.getD i []).getD 1 0) = key (l.getD i []) := plc_key (okw_in (hws i hl).1).1
    have hp2 : plc a b = key [a, b, c] := plc_key (r := [a, b, c]) (okw_in ho).1
    have hlen := foldW_len (l := l) (r := [a, b, c]) i (by omega)
    have hs := foldW_succ (r := [a, b, c]) hl
    have hrow := row3 (wid_get hw hl)
    generalize foldW l [a, b, c] i = s at *
    obtain ⟨W, d⟩ := s
    simp only at hlen hs ⊢
    have ht : ∀ X, List.take W.length (mZ W) ++ X = mZ W ++ X := fun X => by rw [List.take_of_length_le (by rw [mZ_len]; exact Nat.le_refl _)]
    have hc1 : cut [[D.v (Value.int IntKind.i64 a), D.v (Value.int IntKind.i64 b), D.v (Value.int IntKind.i64 c)]] 0 1 = mZ [[a, b, c]] := rfl
    have hc2 : ∀ x y z, cut [[D.v (Value.int IntKind.i64 x), D.v (Value.int IntKind.i64 y), D.v (Value.int IntKind.i64 z)]] 0 1 = mZ [[x, y, z]] := fun _ _ _ => rfl
    have b1 : (decide (W.length ≤ (mZ W).length) && (decide ((W.length + 1) * 24 ≤ 140737488355328) && decide (W.length + 1 ≤ 9223372036854775807))) = true := by rw [mZ_len]; simp; omega
    have b2 : (decide (W.length + 1 ≤ (mZ W ++ mZ [[a, b, c]]).length) && (decide ((W.length + 1 + 1) * 24 ≤ 140737488355328) && decide (W.length + 1 + 1 ≤ 9223372036854775807))) = true := by rw [List.length_append, mZ_len, mZ_len]; simp; omega
    have ht2 : List.take (W.length + 1) (mZ W ++ mZ [[a, b, c]]) = mZ W ++ mZ [[a, b, c]] := List.take_of_length_le (by rw [List.length_append, mZ_len, mZ_len]; simp)
    simp only [mZ_len, Int.ofNat_lt, hl, decide_true, cond_true, Int.natCast_nonneg, Bool.and_self, Int.toNat_natCast, hj0, hj1, hj, List.drop_zero, hdJ_mZ0, hdJ_mZ, hdJ_mZt1, hdJ_mZt2, true_and, wi, hp1, hp2, hc1, hc2, ht, hrow, ht2]
    rw [mZ_len] at b1
    rw [mZ_append] at b2
    simp only [b1, mZ_append, b2, cond_true]
    have nx : ∀ s, stepW (key [a, b, c]) [a, b, c] (W, d) (l.getD i []) = s → ∃ p', l.length - p' < l.length - i ∧ p' ≤ l.length ∧ stWW (mZ l) sp a b c s.1.length s.1.length (mZ s.1) s.2 ((i + 1 : Nat) : Int) = stWW (mZ l) sp a b c (foldW l [a, b, c] p').1.length (foldW l [a, b, c] p').1.length (mZ (foldW l [a, b, c] p').1) (foldW l [a, b, c] p').2 p' := fun s h => ⟨i + 1, by omega, hl, by rw [hs, h]⟩
    generalize hge : decide (key (l.getD i []) ≥ key [a, b, c]) = ge at nx ⊢
    generalize hne : (key (l.getD i []) != key [a, b, c]) = ne at nx ⊢
    have st : stepW (key [a, b, c]) [a, b, c] (W, d) (l.getD i []) = (bif ne then (bif !d then (bif ge then W ++ [[a, b, c]] else W) else W) ++ [l.getD i []] else (bif !d then (bif ge then W ++ [[a, b, c]] else W) else W), d || ge) := by unfold stepW; rw [hge, hne]
    rw [st] at nx
    cases d <;> cases ge <;> cases ne <;> simp only [Bool.not_false, Bool.not_true, cond_true, cond_false, Bool.or_false, Bool.false_or, Bool.or_true, Bool.true_or, List.append_assoc] at nx ⊢
    all_goals first
      | exact nx _ rfl
      | (have := nx _ rfl; simpa using this)
  · have e : i = l.length := by omega
    subst e
    have hlt : decide (((l.length : Nat) : Int) < ((mZ l).length : Int)) = false := by rw [mZ_len]; simp
    rw [hlt]
    exact ⟨rfl, h2 _⟩
theorem eWW (l : List (List Int)) (sp : List (List D)) (a b c : Int) (K : DV → Prop) : (askL Try.prog [(54, sWMy)] [(6, fWW l sp a b c)] Try.f47 [dS 3 (mZ l) sp, .agg [vI a, vI b, vI c]] K) = (bif okZ (3) (mZ l) then bif !wmay (toZ (mZ l)) then K (DV.tup [DV.c (D.s (1) (3) [] []), DV.c (D.v (Value.int IntKind.i64 (1000)))]) else bif !wmay (toZ [[D.v (Value.int IntKind.i64 a), D.v (Value.int IntKind.i64 b), D.v (Value.int IntKind.i64 c)]]) then K (DV.tup [DV.c (D.s (1) (3) [] []), DV.c (D.v (Value.int IntKind.i64 (1000)))]) else stWW (mZ l) sp a b c (0) (0) [] false (0) = stWW (mZ l) sp a b c (0) (0) [] false (0) ∧ ∀ (i : Int), bif !(foldW l [a, b, c] (List.length l)).snd then bif decide (List.length (foldW l [a, b, c] (List.length l)).fst ≤ List.length (mZ (foldW l [a, b, c] (List.length l)).fst)) && (decide ((List.length (foldW l [a, b, c] (List.length l)).fst + 1) * 24 ≤ 140737488355328) && decide (List.length (foldW l [a, b, c] (List.length l)).fst + 1 ≤ 9223372036854775807)) then bif decide (List.length (foldW l [a, b, c] (List.length l)).fst + 1 ≤ List.length (List.take (List.length (foldW l [a, b, c] (List.length l)).fst) (mZ (foldW l [a, b, c] (List.length l)).fst) ++ [[D.v (Value.int IntKind.i64 a), D.v (Value.int IntKind.i64 b), D.v (Value.int IntKind.i64 c)]])) && List.all (List.take (List.length (foldW l [a, b, c] (List.length l)).fst) (mZ (foldW l [a, b, c] (List.length l)).fst) ++ [[D.v (Value.int IntKind.i64 a), D.v (Value.int IntKind.i64 b), D.v (Value.int IntKind.i64 c)]]) fun r => List.all r D.keeps then K (DV.tup [DV.c (D.s (1) (3) (List.take (List.length (foldW l [a, b, c] (List.length l)).fst + 1) (List.take (List.length (foldW l [a, b, c] (List.length l)).fst) (mZ (foldW l [a, b, c] (List.length l)).fst) ++ [[D.v (Value.int IntKind.i64 a), D.v (Value.int IntKind.i64 b), D.v (Value.int IntKind.i64 c)]])) (List.take (List.length (foldW l [a, b, c] (List.length l)).fst + 1 - (List.length (foldW l [a, b, c] (List.length l)).fst + 1)) (List.drop (List.length (foldW l [a, b, c] (List.length l)).fst + 1) (List.take (List.length (foldW l [a, b, c] (List.length l)).fst) (mZ (foldW l [a, b, c] (List.length l)).fst) ++ [[D.v (Value.int IntKind.i64 a), D.v (Value.int IntKind.i64 b), D.v (Value.int IntKind.i64 c)]])))), DV.c (D.v (Value.int IntKind.i64 (0)))]) else False else False else bif decide (List.length (foldW l [a, b, c] (List.length l)).fst ≤ List.length (mZ (foldW l [a, b, c] (List.length l)).fst)) && List.all (mZ (foldW l [a, b, c] (List.length l)).fst) fun r => List.all r D.keeps then K (DV.tup [DV.c (D.s (1) (3) (List.take (List.length (foldW l [a, b, c] (List.length l)).fst) (mZ (foldW l [a, b, c] (List.length l)).fst)) (List.take (List.length (foldW l [a, b, c] (List.length l)).fst - List.length (foldW l [a, b, c] (List.length l)).fst) (List.drop (List.length (foldW l [a, b, c] (List.length l)).fst) (mZ (foldW l [a, b, c] (List.length l)).fst)))), DV.c (D.v (Value.int IntKind.i64 (0)))]) else False else False) := by kernel_rfl
theorem eWWn (l : List (List Int)) (sp : List (List D)) (a b c : Int) (K : DV → Prop) : (askL Try.prog [(54, sWMy)] [(6, fun _ _ => False)] Try.f47 [dS 3 (mZ l) sp, .agg [vI a, vI b, vI c]] K) = (bif okZ (3) (mZ l) then bif !wmay (toZ (mZ l)) then K (DV.tup [DV.c (D.s (1) (3) [] []), DV.c (D.v (Value.int IntKind.i64 (1000)))]) else bif !wmay (toZ [[D.v (Value.int IntKind.i64 a), D.v (Value.int IntKind.i64 b), D.v (Value.int IntKind.i64 c)]]) then K (DV.tup [DV.c (D.s (1) (3) [] []), DV.c (D.v (Value.int IntKind.i64 (1000)))]) else False else False) := by kernel_rfl
theorem cWW {l : List (List Int)} {sp : List (List D)} (a b c : Int) (hw : wid 3 l) (hn : l.length ≤ 9223372036854775807) : CT Try.prog 47 [dS 3 (mZ l) sp, .agg [vI a, vI b, vI c]] (.tup [.c (.s 1 3 (mZ (withW l [a, b, c])) []), I (withE l [a, b, c])]) := by
  have hk : okZ 3 (mZ l) = true := okZ_mZ hw hn
  have h1 : toZ [[D.v (Value.int IntKind.i64 a), D.v (Value.int IntKind.i64 b), D.v (Value.int IntKind.i64 c)]] = [[a, b, c]] := rfl
  cases hm : wmay l && okw [a, b, c] with
  | false =>
    refine ct_askL (l := [(54, sWMy)]) (m := [(6, fun _ _ => False)]) (.cons oWPy .nil) mixed (loops1 rfl (by kernel_rfl) (fun _ _ h => h.elim)) Try.func47 rfl rfl rfl ?_
    rw [eWWn]
    unfold withW withE
    rw [hm]
    simp only [hk, cond_true, toZ_mZ, h1, wmay1]
    cases h2 : wmay l with
    | false => rfl
    | true => rw [h2] at hm; simp only [Bool.true_and] at hm; rw [hm]; rfl
  | true =>
    obtain ⟨h2, h3⟩ : wmay l = true ∧ okw [a, b, c] = true := by simpa using hm
    obtain ⟨h16, hws⟩ := (wmay_iff l).1 h2
    refine ct_askL (l := [(54, sWMy)]) (m := [(6, fWW l sp a b c)]) (.cons oWPy .nil) mixed (loops1 rfl (by kernel_rfl) (kWW hw h2 h3)) Try.func47 rfl rfl rfl ?_
    rw [eWW]
    unfold withW withE
    rw [hm]
    have hp := foldW_put (r := [a, b, c]) hws
    have hlen := foldW_len (l := l) (r := [a, b, c]) l.length (Nat.le_refl _)
    simp only [hk, cond_true, toZ_mZ, h1, wmay1, h2, h3, Bool.not_true, cond_false]
    refine ⟨trivial, fun i => ?_⟩
    rw [← hp]
    generalize foldW l [a, b, c] l.length = s at hlen ⊢
    obtain ⟨W, d⟩ := s
    simp only at hlen ⊢
    have hc1 : ([[D.v (Value.int IntKind.i64 a), D.v (Value.int IntKind.i64 b), D.v (Value.int IntKind.i64 c)]] : List (List D)) = mZ [[a, b, c]] := rfl
    have ht : List.take W.length (mZ W) = mZ W := List.take_of_length_le (by rw [mZ_len]; exact Nat.le_refl _)
    have hkp : ∀ l, (mZ l).all (fun r => r.all D.keeps) = true := fun l => keeps_of (allV_mZ l)
    cases d with
    | false =>
      simp only [Bool.not_false, cond_true, cond_false, hc1, ht, mZ_append, hkp, Nat.sub_self, List.take_zero]
      refine cnd (by rw [mZ_len]; simp; omega) (cnd (by rw [mZ_len]; simp) ?_)
      rw [List.take_of_length_le (by rw [mZ_len]; simp)]
    | true =>
      simp only [Bool.not_true, cond_true, cond_false, ht, hkp, Nat.sub_self, List.take_zero]
      exact cnd (by rw [mZ_len]; simp) trivial
theorem oWW : SpecOK Try.prog 47 sWth := o_of Try.func47 (by kernel_rfl) rfl fun ds Q h => by
  unfold sWth at h; split at h
  · rename_i R sp a b c
    obtain ⟨h1, h2⟩ := cond_P h
    obtain ⟨e1, w1, n1⟩ := okZ_spec h1
    rw [e1]
    rw [← toZ_len R] at n1
    generalize toZ R = l at *
    have hv := allV_mZ (withW l [a, b, c])
    exact ⟨_, cWW a b c w1 n1, by simp [DV.pureOwn, DV.pure1, D.pureOwn, DV.pureOwn.go, ownLL_of hv]; rfl, rfl, h2⟩
  · exact h.elim
end Vm
