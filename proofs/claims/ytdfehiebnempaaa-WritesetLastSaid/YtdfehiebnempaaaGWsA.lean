/- What the functions of this text do, told by an interpreter that is proved right (YtdfehiebnempaaaGA to GD). My own work. -/
import Derived.Test.YtdfehiebnempaaaGArA
import Derived.Test.YtdfehiebnempaaaGD
namespace Vm
open Go Go.Proofs
set_option linter.unusedSimpArgs false
set_option linter.unusedVariables false
set_option maxRecDepth 100000
/-! ### writes: their row, the search -/
theorem any_find {α : Type} (l : List α) (p : α → Bool) : decide ((match l.findIdx? p with | some i => (i : Int) | none => -1) ≥ 0) = l.any p := by
  cases h : l.findIdx? p with
  | some i =>
    have : l.any p = true := by
      rw [List.findIdx?_eq_some_iff_getElem] at h
      obtain ⟨h1, h2, _⟩ := h
      exact List.any_eq_true.2 ⟨_, List.getElem_mem h1, h2⟩
    rw [this]; simp
  | none =>
    have : l.any p = false := by
      rw [List.findIdx?_eq_none_iff] at h
      rw [List.any_eq_false]; intro x hx; simpa using h x hx
    rw [this]; rfl
def ix4 (x : Int) : Bool := upto x 0 3
theorem eIdx (x : Int) (K : DV → Prop) : (ask Try.prog [] Try.f78 [I x] K) = (bif decide (x ≥ 0) then K (DV.c (D.v (Value.bool (decide (x < 4))))) else K (DV.c (D.v (Value.bool false)))) := by kernel_rfl
theorem oIdx : SpecOK Try.prog 78 (sB ix4) := oB Try.func78 (by kernel_rfl) rfl fun x => ct_ask .nil mixed Try.func78 rfl rfl rfl (by
  rw [eIdx]; unfold ix4 upto; rw [lt4]; cases decide (x ≥ 0) <;> rfl)
theorem eWN (x y : Int) (K : DV → Prop) : (ask Try.prog [(92, sB lab), (91, sUp)] Try.f80 [I x, I y] K) = (bif lab x then K (DV.c (D.v (Value.bool (decide (y ≥ 0) && decide (y ≤ 3))))) else K (DV.c (D.v (Value.bool false)))) := by kernel_rfl
def wnm (x y : Int) : Bool := bif lab x then ix4 y else false
def sWN : Spec := fun ds Q => match ds with | [.c (.v (.int .i64 x)), .c (.v (.int .i64 y))] => Q (B (wnm x y)) | _ => False
theorem oWN : SpecOK Try.prog 80 sWN := o_of Try.func80 (by kernel_rfl) rfl fun ds Q h => by
  unfold sWN at h; split at h
  · rename_i x y
    refine ⟨_, ct_ask (.cons oRLab (.cons oUp .nil)) mixed Try.func80 rfl rfl rfl ?_, rfl, rfl, h⟩
    rw [eWN]; unfold wnm ix4 upto; cases lab x <;> rfl
  · exact h.elim
def plc (x y : Int) : Int := IntKind.wrap .i64 (IntKind.wrap .i64 (4 * x) + y)
theorem ePl (x y : Int) (K : DV → Prop) : (ask Try.prog [] Try.f87 [I x, I y] K) = (K (DV.c (D.v (Value.int IntKind.i64 (IntKind.wrap IntKind.i64 (IntKind.wrap IntKind.i64 (4 * x) + y)))))) := by kernel_rfl
def sPl : Spec := fun ds Q => match ds with | [.c (.v (.int .i64 x)), .c (.v (.int .i64 y))] => Q (I (plc x y)) | _ => False
theorem oPl : SpecOK Try.prog 87 sPl := o_of Try.func87 (by kernel_rfl) rfl fun ds Q h => by
  unfold sPl at h; split at h
  · rename_i x y
    refine ⟨_, ct_ask .nil mixed Try.func87 rfl rfl rfl ?_, rfl, rfl, h⟩
    rw [ePl]; rfl
  · exact h.elim
def ior (a b : Int) : Int := bif a != 0 then a else b
theorem eOr (a b : Int) (K : DV → Prop) : (ask Try.prog [] Try.f98 [dS 1 [[vI a], [vI b]] []] K) = (bif a != 0 then K (DV.c (D.v (Value.int IntKind.i64 a))) else bif b != 0 then K (DV.c (D.v (Value.int IntKind.i64 b))) else K (DV.c (D.v (Value.int IntKind.i64 (0))))) := by kernel_rfl
def sOr : Spec := fun ds Q => match ds with | [.c (.s 0 1 [[.v (.int .i64 a)], [.v (.int .i64 b)]] [])] => Q (I (ior a b)) | _ => False
theorem oOr : SpecOK Try.prog 98 sOr := o_of Try.func98 (by kernel_rfl) rfl fun ds Q h => by
  unfold sOr at h; split at h
  · rename_i a b
    refine ⟨_, ct_ask .nil mixed Try.func98 rfl rfl rfl ?_, rfl, rfl, h⟩
    rw [eOr]; unfold ior
    cases ha : (a != 0) with
    | true => rfl
    | false =>
      by_cases hb : b = 0
      · subst hb; rfl
      · have : (b != 0) = true := by simpa using hb
        rw [this]; rfl
  · exact h.elim
theorem eRow (a b c x y z : Int) (K : DV → Prop) : (ask Try.prog [(98, sOr)] Try.f85 [.agg [vI a, vI b, vI c], .agg [vI x, vI y, vI z]] K) = (K (DV.c (D.v (Value.int IntKind.i64 (ior (IntKind.wrap IntKind.i64 (a - x)) (IntKind.wrap IntKind.i64 (b - y))))))) := by kernel_rfl
def rw3 (r : List Int) (a b : Int) : Int := ior (IntKind.wrap .i64 (r.getD 0 0 - a)) (IntKind.wrap .i64 (r.getD 1 0 - b))
def sRow : Spec := fun ds Q => match ds with | [.agg [.v (.int .i64 a), .v (.int .i64 b), .v (.int .i64 c)], .agg [.v (.int .i64 x), .v (.int .i64 y), .v (.int .i64 z)]] => Q (I (rw3 [a, b, c] x y)) | _ => False
theorem oRow : SpecOK Try.prog 85 sRow := o_of Try.func85 (by kernel_rfl) rfl fun ds Q h => by
  unfold sRow at h; split at h
  · rename_i a b c x y z
    refine ⟨_, ct_ask (.cons oOr .nil) mixed Try.func85 rfl rfl rfl ?_, rfl, rfl, h⟩
    rw [eRow]; rfl
  · exact h.elim

/-! ### the search by halves -/
def bsR (p : Nat → Bool) : Nat → Nat → Nat → Nat
  | 0, i, _ => i
  | f + 1, i, j => bif decide (i < j) then (bif p ((i + j) / 2) then bsR p f ((i + j) / 2 + 1) j else bsR p f i ((i + j) / 2)) else i
theorem bsR_fuel (p : Nat → Bool) : ∀ (f g i j : Nat), j - i ≤ f → j - i ≤ g → bsR p f i j = bsR p g i j
  | 0, 0, i, j, _, _ => rfl
  | 0, g + 1, i, j, h, _ => by
    have : ¬ (i < j) := by omega
    simp [bsR, this]
  | f + 1, 0, i, j, _, h => by
    have : ¬ (i < j) := by omega
    simp [bsR, this]
  | f + 1, g + 1, i, j, h1, h2 => by
    by_cases hij : i < j
    · simp only [bsR, hij, decide_true, cond_true]
      rw [bsR_fuel p f g ((i + j) / 2 + 1) j (by omega) (by omega), bsR_fuel p f g i ((i + j) / 2) (by omega) (by omega)]
    · simp [bsR, hij]
def bsAt (p : Nat → Bool) (n : Nat) : Nat := bsR p n 0 n
theorem bsR_le (p : Nat → Bool) : ∀ (f i j : Nat), i ≤ j → bsR p f i j ≤ j
  | 0, i, j, h => h
  | f + 1, i, j, h => by
    by_cases hij : i < j
    · simp only [bsR, hij, decide_true, cond_true]
      cases p ((i + j) / 2) with
      | true => exact bsR_le p f _ _ (by omega)
      | false => exact Nat.le_trans (bsR_le p f _ _ (by omega)) (by omega)
    · simp [bsR, hij]; exact h
theorem mid_wrap {i j : Nat} (h : i + j ≤ 9223372036854775807) : IntKind.wrap .i64 (Int.fdiv (IntKind.wrap .u64 (IntKind.wrap .i64 ((i : Int) + (j : Int)))) 2) = (((i + j) / 2 : Nat) : Int) := by
  have e1 : IntKind.wrap .i64 ((i : Int) + (j : Int)) = ((i + j : Nat) : Int) := by rw [IntKind.wrap_i64]; omega
  have e2 : IntKind.wrap .u64 ((i + j : Nat) : Int) = ((i + j : Nat) : Int) := by
    have : IntKind.wrap .u64 ((i + j : Nat) : Int) = ((i + j : Nat) : Int) % 18446744073709551616 := rfl
    rw [this]; omega
  rw [e1, e2]
  have e3 : Int.fdiv ((i + j : Nat) : Int) 2 = (((i + j) / 2 : Nat) : Int) := by rw [Int.fdiv_eq_ediv_of_nonneg _ (by omega)]; omega
  rw [e3, IntKind.wrap_i64]; omega
def sBS (R sp : List (List D)) (a b c : Int) (i j : Int) : X := ⟨mkT 49 [(0, aS 3 R sp), (2, .c (.d (.f 85 [] []))), (4, .c (.rp 5 0 3 0 0)), (8, ai R.length), (9, ai i), (10, ai j)], [(5, .bx 0 3 [.d (vI a), .d (vI b), .d (vI c)])], []⟩
def vBS (R sp : List (List D)) (a b c : Int) : Vw := fun y K => wI y 9 fun i => wI y 10 fun j => K (sBS R sp a b c i j)
theorem vBS_ok (R sp : List (List D)) (a b c : Int) : VwOK (vBS R sp a b c) := fun y K h => by
  unfold vBS at h
  obtain ⟨i, h⟩ := wI_ex h
  obtain ⟨j, h⟩ := wI_ex h
  exact ⟨_, h⟩
theorem rBS (R sp : List (List D)) (a b c : Int) (i j : Int) (N : X → Prop) (E : Exit → X → Prop) : (roundW Try.prog (hkA band bor [(85, sRow)] []) Try.f84 0 [] [0, 2, 4, 8, 9, 10] [5] (vBS R sp a b c) (vBS R sp a b c) N E (sBS R sp a b c i j)) = (bif decide (i < j) then bif decide (0 ≤ IntKind.wrap IntKind.i64 (Int.fdiv (IntKind.wrap IntKind.u64 (IntKind.wrap IntKind.i64 (i + j))) (2))) && decide (IntKind.wrap IntKind.i64 (Int.fdiv (IntKind.wrap IntKind.u64 (IntKind.wrap IntKind.i64 (i + j))) (2)) < @Nat.cast Int _ (List.length R)) then bif isJ [IntKind.i64, IntKind.i64, IntKind.i64] (List.drop (0) (List.getD R (Int.toNat (IntKind.wrap IntKind.i64 (Int.fdiv (IntKind.wrap IntKind.u64 (IntKind.wrap IntKind.i64 (i + j))) (2)))) [])) then bif decide (rw3 [hdJ (List.drop (0) (List.getD R (Int.toNat (IntKind.wrap IntKind.i64 (Int.fdiv (IntKind.wrap IntKind.u64 (IntKind.wrap IntKind.i64 (i + j))) (2)))) [])), hdJ (List.tail (List.drop (0) (List.getD R (Int.toNat (IntKind.wrap IntKind.i64 (Int.fdiv (IntKind.wrap IntKind.u64 (IntKind.wrap IntKind.i64 (i + j))) (2)))) []))), hdJ (List.tail (List.tail (List.drop (0) (List.getD R (Int.toNat (IntKind.wrap IntKind.i64 (Int.fdiv (IntKind.wrap IntKind.u64 (IntKind.wrap IntKind.i64 (i + j))) (2)))) []))))] a b < 0) then sBS R sp a b c (IntKind.wrap IntKind.i64 (IntKind.wrap IntKind.i64 (Int.fdiv (IntKind.wrap IntKind.u64 (IntKind.wrap IntKind.i64 (i + j))) (2)) + 1)) j = sBS R sp a b c (IntKind.wrap IntKind.i64 (IntKind.wrap IntKind.i64 (Int.fdiv (IntKind.wrap IntKind.u64 (IntKind.wrap IntKind.i64 (i + j))) (2)) + 1)) j ∧ N (sBS R sp a b c (IntKind.wrap IntKind.i64 (IntKind.wrap IntKind.i64 (Int.fdiv (IntKind.wrap IntKind.u64 (IntKind.wrap IntKind.i64 (i + j))) (2)) + 1)) j) else sBS R sp a b c i (IntKind.wrap IntKind.i64 (Int.fdiv (IntKind.wrap IntKind.u64 (IntKind.wrap IntKind.i64 (i + j))) (2))) = sBS R sp a b c i (IntKind.wrap IntKind.i64 (Int.fdiv (IntKind.wrap IntKind.u64 (IntKind.wrap IntKind.i64 (i + j))) (2))) ∧ N (sBS R sp a b c i (IntKind.wrap IntKind.i64 (Int.fdiv (IntKind.wrap IntKind.u64 (IntKind.wrap IntKind.i64 (i + j))) (2)))) else False else False else sBS R sp a b c i j = sBS R sp a b c i j ∧ E (Exit.exit (0)) (sBS R sp a b c i j)) := by kernel_rfl
def ltW (l : List (List Int)) (a b : Int) (h : Nat) : Bool := decide (rw3 (l.getD h []) a b < 0)
def fBS (l : List (List Int)) (sp : List (List D)) (a b c : Int) : LSum := fun Q x => x.arr [0, 2, 4, 8, 9, 10] [5] = sBS (mZ l) sp a b c 0 (mZ l).length ∧ ∀ j, Q (.exit 0) (sBS (mZ l) sp a b c (bsAt (ltW l a b) l.length : Nat) j)
theorem kBS {l : List (List Int)} {sp : List (List D)} {a b c : Int} (hw : wid 3 l) (hn : 2 * l.length ≤ 9223372036854775807) (Q : Exit → X → Prop) (x : X) (h : fBS l sp a b c Q x) : XWP Try.prog (.loop (bodyL Try.f84 0)) Q x := by
  obtain ⟨h1, h2⟩ := h
  refine xwp_roundW (ι := Nat × Nat) (H := hkA band bor [(85, sRow)] []) [] (hkl_ok (.cons oRow .nil)) mixed (loops_nil rfl) (fun p => sBS (mZ l) sp a b c p.1 p.2) (fun p => p.1 ≤ p.2 ∧ p.2 ≤ l.length ∧ bsR (ltW l a b) (p.2 - p.1) p.1 p.2 = bsAt (ltW l a b) l.length) (fun p => p.2 - p.1) (0, l.length) (vBS (mZ l) sp a b c) (vBS (mZ l) sp a b c) (vBS_ok _ _ _ _ _) (vBS_ok _ _ _ _ _) (fun p hp => ?_) ⟨Nat.zero_le _, Nat.le_refl _, rfl⟩ (by rw [mZ_len] at h1; exact h1)
  obtain ⟨i, j⟩ := p
  obtain ⟨q1, q2, q3⟩ := hp
  simp only at q1 q2 q3 ⊢
  rw [rBS]
  by_cases hij : i < j
  · have hmw := mid_wrap (i := i) (j := j) (by omega)
    have hml : (i + j) / 2 < l.length := by omega
    have hj1 : isJ [IntKind.i64, IntKind.i64, IntKind.i64] ((mZ l).getD ((i + j) / 2) []) = true := isJ_mZ (j := 0) (n := 3) hw hml (by omega)
    have w1 : IntKind.wrap .i64 ((((i + j) / 2 : Nat) : Int) + 1) = (((i + j) / 2 + 1 : Nat) : Int) := wrap_nat (n := 1) (by omega)
    obtain ⟨d, hd⟩ : ∃ d, j - i = d + 1 := ⟨j - i - 1, by omega⟩
    have hp : decide (rw3 [(l.getD ((i + j) / 2) []).getD 0 0, (l.getD ((i + j) / 2) []).getD 1 0, (l.getD ((i + j) / 2) []).getD 2 0] a b < 0) = ltW l a b ((i + j) / 2) := rfl
    simp only [hmw, mZ_len, Int.ofNat_lt, hij, hml, decide_true, cond_true, Int.natCast_nonneg, Bool.and_self, Int.toNat_natCast, List.drop_zero, hdJ_mZt1, hdJ_mZt2, hdJ_mZ0, hj1, w1, true_and, hp]
    rw [hd] at q3
    simp only [bsR, hij, decide_true, cond_true] at q3
    cases hpp : ltW l a b ((i + j) / 2) with
    | true =>
      rw [hpp] at q3
      simp only [cond_true] at q3 ⊢
      exact ⟨((i + j) / 2 + 1, j), by simp; omega, ⟨by simp; omega, q2, by rw [← q3]; exact bsR_fuel _ _ _ _ _ (Nat.le_refl _) (by simp; omega)⟩, rfl⟩
    | false =>
      rw [hpp] at q3
      simp only [cond_false] at q3 ⊢
      exact ⟨(i, (i + j) / 2), by simp; omega, ⟨by simp; omega, by simp; omega, by rw [← q3]; exact bsR_fuel _ _ _ _ _ (Nat.le_refl _) (by simp; omega)⟩, rfl⟩
  · have e : i = j := by omega
    subst e
    have hs : bsAt (ltW l a b) l.length = i := by rw [← q3]; cases (i - i) <;> simp [bsR]
    have h3 := h2 (i : Nat)
    rw [hs] at h3
    have hlt : decide ((i : Int) < (i : Int)) = false := by simp
    rw [hlt]
    exact ⟨rfl, h3⟩
theorem eBS (l : List (List Int)) (sp : List (List D)) (a b c : Int) (K : DV → Prop) : (askL Try.prog [(85, sRow)] [(3, fBS l sp a b c)] Try.f84 [dS 3 (mZ l) sp, .agg [vI a, vI b, vI c], .c (.f 85 [] [])] K) = (sBS (mZ l) sp a b c (0) (@Nat.cast Int _ (List.length (mZ l))) = sBS (mZ l) sp a b c (0) (@Nat.cast Int _ (List.length (mZ l))) ∧ ∀ (j : Int), bif decide (@Nat.cast Int _ (bsAt (ltW l a b) (List.length l)) < @Nat.cast Int _ (List.length (mZ l))) then bif decide (0 ≤ @Nat.cast Int _ (bsAt (ltW l a b) (List.length l))) && decide (@Nat.cast Int _ (bsAt (ltW l a b) (List.length l)) < @Nat.cast Int _ (List.length (mZ l))) then bif isJ [IntKind.i64, IntKind.i64, IntKind.i64] (List.drop (0) (List.getD (mZ l) (Int.toNat (@Nat.cast Int _ (bsAt (ltW l a b) (List.length l)))) [])) then K (DV.tup [DV.c (D.v (Value.int IntKind.i64 (@Nat.cast Int _ (bsAt (ltW l a b) (List.length l))))), DV.c (D.v (Value.bool (rw3 [hdJ (List.drop (0) (List.getD (mZ l) (Int.toNat (@Nat.cast Int _ (bsAt (ltW l a b) (List.length l)))) [])), hdJ (List.tail (List.drop (0) (List.getD (mZ l) (Int.toNat (@Nat.cast Int _ (bsAt (ltW l a b) (List.length l)))) []))), hdJ (List.tail (List.tail (List.drop (0) (List.getD (mZ l) (Int.toNat (@Nat.cast Int _ (bsAt (ltW l a b) (List.length l)))) []))))] a b == 0)))]) else False else False else K (DV.tup [DV.c (D.v (Value.int IntKind.i64 (@Nat.cast Int _ (bsAt (ltW l a b) (List.length l))))), DV.c (D.v (Value.bool false))])) := by kernel_rfl
theorem bsAt_le (p : Nat → Bool) (n : Nat) : bsAt p n ≤ n := bsR_le p n 0 n (Nat.zero_le _)
def isW (l : List (List Int)) (a b : Int) : Bool := bif decide (bsAt (ltW l a b) l.length < l.length) then rw3 (l.getD (bsAt (ltW l a b) l.length) []) a b == 0 else false
def sBSF : Spec := fun ds Q => match ds with | [.c (.s 0 3 R sp), .agg [.v (.int .i64 a), .v (.int .i64 b), .v (.int .i64 c)], .c (.f 85 [] [])] => cond (okZ 3 R && decide (R.length ≤ 4611686018427387903)) (Q (.tup [I (bsAt (ltW (toZ R) a b) (toZ R).length : Nat), B (isW (toZ R) a b)])) False | _ => False
theorem oBSF : SpecOK Try.prog 84 sBSF := o_of Try.func84 (by kernel_rfl) rfl fun ds Q h => by
  unfold sBSF at h; split at h
  · rename_i R sp a b c
    obtain ⟨h1, h2⟩ := cond_P h
    simp only [Bool.and_eq_true, decide_eq_true_eq] at h1
    obtain ⟨e1, w1, n1⟩ := okZ_spec h1.1
    have n2 := h1.2
    rw [e1] at n2 ⊢
    rw [mZ_len] at n2
    generalize toZ R = l at *
    refine ⟨_, ct_askL (l := [(85, sRow)]) (m := [(3, fBS l sp a b c)]) (.cons oRow .nil) mixed (loops1 rfl (by kernel_rfl) (kBS w1 (by omega))) Try.func84 rfl rfl rfl ?_, rfl, rfl, h2⟩
    rw [eBS]
    refine ⟨rfl, fun j => ?_⟩
    have hle := bsAt_le (ltW l a b) l.length
    unfold isW
    generalize hat : bsAt (ltW l a b) l.length = at' at *
    by_cases hl : at' < l.length
    · have hj1 : isJ [IntKind.i64, IntKind.i64, IntKind.i64] ((mZ l).getD at' []) = true := isJ_mZ (j := 0) (n := 3) w1 hl (by omega)
      have hp : rw3 [(l.getD at' []).getD 0 0, (l.getD at' []).getD 1 0, (l.getD at' []).getD 2 0] a b = rw3 (l.getD at' []) a b := rfl
      simp only [mZ_len, Int.ofNat_lt, hl, decide_true, cond_true, Int.natCast_nonneg, Bool.and_self, Int.toNat_natCast, List.drop_zero, hdJ_mZt1, hdJ_mZt2, hdJ_mZ0, hj1, hp]
    · simp only [mZ_len, Int.ofNat_lt, hl, decide_false, cond_false]
  · exact h.elim
end Vm
