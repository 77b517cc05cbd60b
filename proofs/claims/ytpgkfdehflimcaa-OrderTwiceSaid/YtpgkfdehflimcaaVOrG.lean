/- What the functions of this text do, told by an interpreter that is proved right (YtpgkfdehflimcaaVA to VD). My own work. -/
import Derived.Test.YtpgkfdehflimcaaVOrF
namespace Vm
open Go Go.Proofs
set_option linter.unusedSimpArgs false
set_option linter.unusedVariables false
theorem wrap_u64 {n : Int} (h0 : 0 ≤ n) (h1 : n < 18446744073709551616) : IntKind.wrap .u64 n = n := by
  simp [IntKind.wrap, IntKind.signed, IntKind.bits]; omega
theorem atQ_ok (a : Int) {n : Nat} (h0 : 0 < n) (h : n ≤ 9223372036854775807) : ∃ q : Nat, q < n ∧ atQ a n = q := by
  unfold atQ
  have hu : 0 ≤ IntKind.wrap .u64 a := by simp [IntKind.wrap, IntKind.signed, IntKind.bits]; omega
  rw [wrap_u64 (n := (n : Int)) (by omega) (by omega)]
  generalize IntKind.wrap .u64 a = u at *
  have h1 : 0 ≤ Int.tmod u n := Int.tmod_nonneg _ hu
  have h2 : Int.tmod u n < n := Int.tmod_lt_of_pos _ (by omega)
  refine ⟨(Int.tmod u n).toNat, by omega, ?_⟩
  rw [wrap_id (by omega) (by omega)]; omega
theorem atQ_def (a : Int) (n : Nat) : IntKind.wrap .i64 (Int.tmod (IntKind.wrap .u64 a) (IntKind.wrap .u64 ((n : Nat) : Int))) = atQ a n := rfl

theorem s19_ok {R : List (List D)} {at' x d : Int} (hR : okR R = true) (hz : R.length ≤ 17592186044000) (Q : Exit → X → Prop) (y : X) (h : s19 R at' x d Q y) : XWP Try.prog (.loop (bodyL Try.f19 0)) Q y := by
  obtain ⟨h1, h2⟩ := h
  have hn := okR_len hR
  have hbl : (0 :: b3 (toI R)).length = R.length + 1 := by rw [List.length_cons, b3_len, toI_len]
  refine xwp_roundH (ι := Nat) (H := hkA band bor [] []) (fn := Try.f19) (i := 0) (ts := [0, 1, 2, 7, 8, 9]) (ks := [20]) (hkl_ok .nil) mixed (loops_nil rfl)
    (fun i => St19 R at' x d i (mI ((0 :: b3 (toI R)).take (i + 1))) (i + 1)) (fun i => i ≤ R.length) (fun i => R.length - i) 0 (V19 R at' x d) (V19 R at' x d) (fun i hi => ?_) (Nat.zero_le _) h1
  show roundA band bor Try.prog _ _ Try.f19 0 _ _ _ _ _ _ _
  rw [e19r]
  by_cases hl : i < R.length
  · have wi : IntKind.wrap .i64 ((i : Int) + 1) = ((i + 1 : Nat) : Int) := wrap_id (by omega) (by omega)
    have hl' : i < (toI R).length := by rw [toI_len]; exact hl
    have hlb : i + 1 < (0 :: b3 (toI R)).length := by rw [hbl]; omega
    have hpush := mI_push hlb (x := band ((toI R).getD i 0) 3) (by rw [b3_get hl']; rfl)
    have hle : i + 1 ≤ (mI ((0 :: b3 (toI R)).take (i + 1))).length := by rw [mI_len, List.length_take]; omega
    have hb1 : (i + 1 + 1) * 8 ≤ 140737488355328 := by omega
    have hb2 : i + 1 + 1 ≤ 9223372036854775807 := by omega
    simp only [Int.ofNat_lt, hl, decide_true, cond_true, Int.natCast_nonneg, Bool.and_self, Int.toNat_natCast, List.drop_zero, okR_get hR hl, toI_get hl, wi, true_and, hle, hb1, hb2, hpush, Nat.succ_eq_add_one]
    exact ⟨i + 1, by omega, hl, rfl⟩
  · have e : i = R.length := by omega
    subst e
    simp only [Int.ofNat_lt, Nat.lt_irrefl, decide_false, cond_false, true_and]
    exact h2 _ (by rw [← hbl, List.take_length])

theorem mI_set {l : List Int} {q : Nat} {v : Int} (hq : q < l.length) : (mI l).set q (D.v (Value.int .i64 v) :: List.drop 1 ((mI l).getD q [])) = mI (l.set q v) := by
  rw [mI_getD hq]; simp [mI, List.map_set]
theorem c19 {R : List (List D)} (at' x : Int) (hR : okR R = true) (hz : R.length ≤ 17592186044000) : CT Try.prog 19 [dR R [], I at', I x] (B true) := by
  refine ct_askL (l := [(40, sJoin), (42, sChain), (23, sI), (45, sT)]) (m := [(6, s19 R at' x (IntKind.wrap .i64 (1 + band x 1023)))]) (.cons o40 (.cons o42 (.cons o23 (.cons o45 .nil)))) mixed (loops1 rfl (by kernel_rfl) (s19_ok (at' := at') (x := x) (d := IntKind.wrap .i64 (1 + band x 1023)) hR hz)) Try.func19 rfl rfl rfl ?_
  show askA band bor Try.prog _ _ Try.f19 _ _
  rw [e19 (d := 0)]
  have hn := okR_len hR
  refine ⟨rfl, fun W hW => ?_⟩
  subst hW
  have hy0 : 0 ≤ band x 1023 ∧ band x 1023 ≤ 1023 := by rw [mask10]; omega
  have ho : band x 1 = 0 ∨ band x 1 = 1 := by rw [mask1]; omega
  generalize band x 1023 = yy at *
  generalize band x 1 = o at *
  have w1 : IntKind.wrap .i64 (1 + yy) = 1 + yy := wrap_id (by omega) (by omega)
  have w2 : IntKind.wrap .i64 (0 - (1 + yy)) = 0 - (1 + yy) := wrap_id (by omega) (by omega)
  have w3 : IntKind.wrap .i64 (3 + (1 + yy)) = 3 + (1 + yy) := wrap_id (by omega) (by omega)
  have hbl : (0 :: b3 (toI R)).length = R.length + 1 := by rw [List.length_cons, b3_len, toI_len]
  generalize hL : 0 :: b3 (toI R) = L at *
  have hu : ¬ (IntKind.wrap .u64 ((R.length + 1 : Nat) : Int) = 0) := by rw [wrap_u64 (by omega) (by omega)]; omega
  obtain ⟨q, hq, eq⟩ := atQ_ok at' (n := R.length + 1) (by omega) (by omega)
  have hqL : q < L.length := by omega
  have hml : (mI L).length = R.length + 1 := by rw [mI_len, hbl]
  have fin : ∀ v, olab v = true → joinI (L.set q v) = ⟨0, 200⟩ ∧ chainI (L.set q v) = ⟨false, 200⟩ := fun v hv => by
    have : (L.set q v).any olab = true := List.any_eq_true.2 ⟨v, List.mem_set hqL v, hv⟩
    simp [joinI, chainI, this]
  have ok2 : ∀ v, okR (mI (L.set q v)) = true := fun v => okR_mI (by simp; omega)
  have ml2 : ∀ v, (mI (L.set q v)).length = R.length + 1 := fun v => by rw [mI_len, List.length_set, hbl]
  have v1 : olab (0 - (1 + yy)) = true := by unfold olab lab upto; simp; omega
  have v2 : olab (3 + (1 + yy)) = true := by unfold olab lab upto; simp; omega
  rcases ho with rfl | rfl
  · simp only [hu, decide_false, decide_true, cond_false, cond_true, atQ_def, eq, w1, w2, w3, Int.toNat_natCast, Int.natCast_nonneg, Int.ofNat_lt, hq, hml, Nat.zero_add, addN, mI_set hqL, Bool.and_self, Bool.true_and, Int.toNat_zero, List.drop_zero, List.getD_cons_zero, isJ, hdJ, ml2, Nat.le_refl, cut_all (ml2 _), ok2, toI_mI, (fin _ v1).1, (fin _ v1).2]
    exact (rfl : B true = B true)
  · simp only [hu, decide_false, decide_true, cond_false, cond_true, atQ_def, eq, w1, w2, w3, Int.toNat_natCast, Int.natCast_nonneg, Int.ofNat_lt, hq, hml, Nat.zero_add, addN, mI_set hqL, Bool.and_self, Bool.true_and, Int.toNat_one, List.drop_zero, List.getD_cons_zero, List.getD_cons_succ, isJ, hdJ, ml2, Nat.le_refl, cut_all (ml2 _), ok2, toI_mI, (fin _ v2).1, (fin _ v2).2]
    exact (rfl : B true = B true)

/-! ### OrderTwice -/
theorem cut_mI (B : List Int) (a m : Nat) : cut (mI B) a m = mI ((B.drop a).take m) := by simp [cut, mI, List.map_take, List.map_drop]
theorem allV_mI (B : List Int) : allV (mI B) = true := by simp [allV, mI, D.isV]
theorem mI_snoc (B : List Int) (v : Int) : mI B ++ [[D.v (.int .i64 v)]] = mI (B ++ [v]) := by simp [mI]
theorem joinA_lab {l : List Int} (h : l.any olab = false) : lab (joinA l) = true := by
  have key : ∀ (l : List Int) (a : Int), lab a = true → l.any olab = false → lab (l.foldl bor a) = true := by
    intro l
    induction l with
    | nil => intro a ha _; exact ha
    | cons b l ih =>
      intro a ha hl
      simp only [List.any_cons, Bool.or_eq_false_iff] at hl
      have hb : lab b = true := by simpa [olab] using hl.1
      exact ih _ (bor_lab a b ha hb) hl.2
  exact key l 0 rfl h
theorem band_small (m : Int) {a : Int} (h : lab a = true) : lab (band m a) = true ∧ bor a (band m a) = a := by
  have hand : ∀ x y : BitVec 64, y ||| (x &&& y) = y := fun x y => by
    apply BitVec.eq_of_getLsbD_eq
    intro i hi
    simp only [BitVec.getLsbD_or, BitVec.getLsbD_and]
    cases x.getLsbD i <;> cases y.getLsbD i <;> rfl
  have ha := lab_cases h
  have hy : (BitVec.ofInt 64 a).toNat = a.toNat := by rcases ha with rfl | rfl | rfl | rfl <;> rfl
  have hle : (BitVec.ofInt 64 m &&& BitVec.ofInt 64 a).toNat ≤ a.toNat := by
    rw [BitVec.toNat_and, ← hy]; exact Nat.and_le_right
  have hb : band m a = ((BitVec.ofInt 64 m &&& BitVec.ofInt 64 a).toNat : Int) := by
    unfold band
    exact wrap_id (by omega) (by omega)
  refine ⟨?_, ?_⟩
  · rw [hb]
    generalize (BitVec.ofInt 64 m &&& BitVec.ofInt 64 a).toNat = r at hle
    unfold lab upto; simp; omega
  · unfold bor
    rw [hb, BitVec.ofInt_natCast, BitVec.ofNat_toNat]
    simp only [BitVec.setWidth_eq]
    rw [hand, hy]
    rcases ha with rfl | rfl | rfl | rfl <;> rfl
theorem any_take_f {B : List Int} {p : Int → Bool} (h : B.any p = false) (k : Nat) : (B.take k).any p = false := by
  rw [List.any_eq_false] at h ⊢
  exact fun x hx => h x (List.mem_of_mem_take hx)
theorem any_drop_f {B : List Int} {p : Int → Bool} (h : B.any p = false) (k : Nat) : (B.drop k).any p = false := by
  rw [List.any_eq_false] at h ⊢
  exact fun x hx => h x (List.mem_of_mem_drop hx)
theorem joinI_ok {B : List Int} (h : B.any olab = false) : joinI B = ⟨joinA B, 0⟩ := by simp [joinI, h]
theorem chainI_ok {B : List Int} (h : B.any olab = false) : chainI B = ⟨chainN B B.length, 0⟩ := by simp [chainI, h]
theorem chain_take {B : List Int} {k : Nat} (hk : k ≤ B.length) (h : chainN B B.length = true) : chainN (B.take k) (B.take k).length = true := by
  simp only [chainN, List.all_eq_true, List.mem_range, List.length_take] at h ⊢
  intro j hj
  have hj' : j < k := by omega
  have := h j (by omega)
  rcases Nat.eq_zero_or_pos j with h0 | h0
  · subst h0; rfl
  · rw [take_getD hj', take_getD (by omega : j - 1 < k)]; exact this
theorem chain_drop {B : List Int} {k : Nat} (hk : k ≤ B.length) (h : chainN B B.length = true) : chainN (B.drop k) (B.drop k).length = true := by
  simp only [chainN, List.all_eq_true, List.mem_range, List.length_drop] at h ⊢
  intro j hj
  rcases Nat.eq_zero_or_pos j with h0 | h0
  · subst h0; rfl
  · have := h (k + j) (by omega)
    have e0 : ((k + j : Nat) == 0) = false := beq_eq_false_iff_ne.2 (by omega)
    have e1 : ((j : Nat) == 0) = false := beq_eq_false_iff_ne.2 (by omega)
    rw [e0, Bool.false_or] at this
    rw [e1, Bool.false_or]
    simp only [List.getD_eq_getElem?_getD, List.getElem?_drop] at this ⊢
    have e2 : k + (j - 1) = k + j - 1 := by omega
    rw [e2]; exact this
theorem joinA_snoc (B : List Int) (v : Int) : joinA (B ++ [v]) = bor (joinA B) v := by simp [joinA]

theorem s20_ok {R : List (List D)} {mo cu : Int} (hR : okR R = true) (hz : R.length ≤ 17592186044000) (Q : Exit → X → Prop) (y : X) (h : s20 R mo cu Q y) : XWP Try.prog (.loop (bodyL Try.f20 0)) Q y := by
  obtain ⟨h1, h2⟩ := h
  have hn := okR_len hR
  have hbl : (b3 (toI R)).length = R.length := by rw [b3_len, toI_len]
  refine xwp_roundH (ι := Nat) (H := hkA band bor [] []) (fn := Try.f20) (i := 0) (ts := [0, 1, 2, 7, 8]) (ks := [8]) (hkl_ok .nil) mixed (loops_nil rfl)
    (fun i => St20 R mo cu i (mI ((b3 (toI R)).take i)) i) (fun i => i ≤ R.length) (fun i => R.length - i) 0 (V20 R mo cu) (V20 R mo cu) (fun i hi => ?_) (Nat.zero_le _) h1
  show roundA band bor Try.prog _ _ Try.f20 0 _ _ _ _ _ _ _
  rw [e20r]
  by_cases hl : i < R.length
  · have wi : IntKind.wrap .i64 ((i : Int) + 1) = ((i + 1 : Nat) : Int) := wrap_id (by omega) (by omega)
    have hl' : i < (toI R).length := by rw [toI_len]; exact hl
    have hlb : i < (b3 (toI R)).length := by rw [hbl]; omega
    have hpush := mI_push hlb (b3_get hl')
    have hle : i ≤ (mI ((b3 (toI R)).take i)).length := by rw [mI_len, List.length_take]; omega
    have hb1 : (i + 1) * 8 ≤ 140737488355328 := by omega
    have hb2 : i + 1 ≤ 9223372036854775807 := by omega
    simp only [Int.ofNat_lt, hl, decide_true, cond_true, Int.natCast_nonneg, Bool.and_self, Int.toNat_natCast, List.drop_zero, okR_get hR hl, toI_get hl, wi, true_and, hle, hb1, hb2, hpush, Nat.succ_eq_add_one]
    exact ⟨i + 1, by omega, hl, rfl⟩
  · have e : i = R.length := by omega
    subst e
    simp only [Int.ofNat_lt, Nat.lt_irrefl, decide_false, cond_false, true_and]
    rw [← hbl, List.take_length, hbl]
    exact h2
theorem c20 {R : List (List D)} (mo cu : Int) (hR : okR R = true) (hz : R.length ≤ 17592186044000) : CT Try.prog 20 [dR R [], I mo, I cu] (B true) := by
  refine ct_askL (l := [(40, sJoin), (42, sChain), (23, sI), (45, sT)]) (m := [(5, s20 R mo cu)]) (.cons o40 (.cons o42 (.cons o23 (.cons o45 .nil)))) mixed (loops1 rfl (by kernel_rfl) (s20_ok (mo := mo) (cu := cu) hR hz)) Try.func20 rfl rfl rfl ?_
  show askA band bor Try.prog _ _ Try.f20 _ _
  rw [e20]
  have hn := okR_len hR
  have hbl : (b3 (toI R)).length = R.length := by rw [b3_len, toI_len]
  have hlab := b3_lab (toI R)
  generalize b3 (toI R) = B at *
  generalize R.length = n at *
  subst hbl
  have wn : IntKind.wrap .i64 ((B.length : Int) + 1) = ((B.length + 1 : Nat) : Int) := wrap_id (by omega) (by omega)
  have hu : ¬ (IntKind.wrap .u64 ((B.length + 1 : Nat) : Int) = 0) := by rw [wrap_u64 (by omega) (by omega)]; omega
  obtain ⟨k, hk, ek⟩ := atQ_ok cu (n := B.length + 1) (by omega) (by omega)
  have hkB : k ≤ B.length := by omega
  have ht : (B.drop 0).take B.length = B := by simp
  have ht2 : (B.drop 0).take k = B.take k := by simp
  have ht3 : (B.drop k).take (B.length - k) = B.drop k := List.take_of_length_le (by simp)
  have ok1 := okR_mI (show B.length ≤ 9223372036854775807 by omega)
  have ok2 := okR_mI (l := B.take k) (by simp; omega)
  have ok3 := okR_mI (l := B.drop k) (by simp; omega)
  have hs := band_small mo (joinA_lab hlab)
  have hS : (B ++ [band mo (joinA B)]).any olab = false := by
    rw [List.any_append, hlab]; simp [olab, hs.1]
  have ok4 := okR_mI (l := B ++ [band mo (joinA B)]) (by simp; omega)
  have ht4 : ((B ++ [band mo (joinA B)]).drop 0).take (B.length + 1) = B ++ [band mo (joinA B)] := by rw [List.drop_zero]; exact List.take_of_length_le (by simp)
  have hml := mI_len B
  have hml4 : (mI (B ++ [band mo (joinA B)])).length = B.length + 1 := by rw [mI_len]; simp
  have hb1 : B.length * 8 ≤ 140737488355328 := by omega
  have hb2 : (B.length + 1) * 8 ≤ 140737488355328 := by omega
  have hb3 : B.length + 1 ≤ 9223372036854775807 := by omega
  have htk : List.take B.length (mI B) = mI B := List.take_of_length_le (by omega)
  have hkz : k + (B.length - k) = B.length := by omega
  simp only [wn, hu, atQ_def, ek, cut_mI, ht, ht2, ht3, ht4, ok1, ok2, ok3, ok4, hml, hml4, hb1, hb2, hb3, htk, hkz, mI_snoc, allV_mI, toI_mI, joinI_ok hlab, joinI_ok hS, joinA_snoc, hs.2, chainI_ok hlab, chainI_ok (any_take_f hlab k), chainI_ok (any_drop_f hlab k), addN, Nat.zero_add, Nat.sub_zero, List.nil_append,
    Int.toNat_natCast, Int.natCast_nonneg, Int.ofNat_le, hkB, hn, Nat.le_refl, decide_true, decide_false, cond_true, cond_false, Bool.and_self, Bool.true_and, beq_self_eq_true, true_and, Nat.le_add_right, List.length_append, List.length_cons, List.length_nil]
  cases hc : chainN B B.length with
  | false => cases (Nat.beq k (OfNat.ofNat 0) || decide (k + 1 ≤ B.length)) <;> exact trivial
  | true =>
    simp only [chain_take hkB hc, chain_drop hkB hc, cond_true, cond_false, Bool.not_true]
    cases (Nat.beq k (OfNat.ofNat 0) || decide (k + 1 ≤ B.length)) <;> exact trivial
end Vm
