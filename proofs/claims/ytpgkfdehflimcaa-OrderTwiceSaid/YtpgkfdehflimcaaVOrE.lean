/- What the functions of this text do, told by an interpreter that is proved right (YtpgkfdehflimcaaVA to VD). My own work. -/
import Derived.Test.YtpgkfdehflimcaaVOrD
namespace Vm
open Go Go.Proofs
set_option linter.unusedSimpArgs false
set_option linter.unusedVariables false
/-- A slice of one's own, all of its row. -/
abbrev aO (k m : Nat) : A := .c (.rs k 0 1 0 m m)
def slotL (y : X) (i : Nat) : Nat := match y.tmps.getD i .dead with | .c (.rs _ _ _ _ len _) => len | _ => 0
def rowsL (y : X) (k : Nat) : List (List D) := match lookN y.store k with | some (.sl _ _ rows) => rows | _ => []
def St18 (R : List (List D)) (i : Int) (W : List (List D)) (m : Nat) (ok : Bool) : X := ⟨mkT 94 [(0, aR R []), (3, aO 4 m), (4, ab ok), (5, ai i)], [(4, .sl 0 1 W)], []⟩
def V18 (R : List (List D)) (y : X) : X := St18 R (slotI y 5) (rowsL y 4) (slotL y 3) (slotB y 4)
theorem e18r (an : Int → Int → Int) (R : List (List D)) (i : Int) (W : List (List D)) (m : Nat) (ok : Bool) (N : X → Prop) (E : Exit → X → Prop) : (roundA an bor Try.prog [(46, sUnd)] [] Try.f18 0 [0, 3, 4, 5] [4] (V18 R) (V18 R) N E (St18 R i W m ok)) = (bif decide (i < @Nat.cast Int _ (List.length R)) then bif decide (0 ≤ i) && decide (i < @Nat.cast Int _ (List.length R)) then bif isJ [IntKind.i64] (List.drop (0) (List.getD R (Int.toNat i) [])) then bif decide (m ≤ List.length W) && (decide ((m + 1) * 8 ≤ 140737488355328) && decide (m + 1 ≤ 9223372036854775807)) then bif ok then bif i == 0 then St18 R (IntKind.wrap IntKind.i64 (i + 1)) (List.take m W ++ [[D.v (Value.int IntKind.i64 (an (hdJ (List.drop (0) (List.getD R (Int.toNat i) []))) (3)))]]) (Nat.succ m) true = St18 R (IntKind.wrap IntKind.i64 (i + 1)) (List.take m W ++ [[D.v (Value.int IntKind.i64 (an (hdJ (List.drop (0) (List.getD R (Int.toNat i) []))) (3)))]]) (Nat.succ m) true ∧ N (St18 R (IntKind.wrap IntKind.i64 (i + 1)) (List.take m W ++ [[D.v (Value.int IntKind.i64 (an (hdJ (List.drop (0) (List.getD R (Int.toNat i) []))) (3)))]]) (Nat.succ m) true) else bif decide (0 ≤ IntKind.wrap IntKind.i64 (i - 1)) && decide (IntKind.wrap IntKind.i64 (i - 1) < @Nat.cast Int _ (m + 1)) then bif decide (addN (0) (Int.toNat (IntKind.wrap IntKind.i64 (i - 1))) < List.length (List.take m W ++ [[D.v (Value.int IntKind.i64 (an (hdJ (List.drop (0) (List.getD R (Int.toNat i) []))) (3)))]])) then bif isJ [IntKind.i64] (List.drop (0) (List.getD (List.take m W ++ [[D.v (Value.int IntKind.i64 (an (hdJ (List.drop (0) (List.getD R (Int.toNat i) []))) (3)))]]) (addN (0) (Int.toNat (IntKind.wrap IntKind.i64 (i - 1)))) [])) then bif decide (0 ≤ i) && decide (i < @Nat.cast Int _ (m + 1)) then bif decide (addN (0) (Int.toNat i) < List.length (List.take m W ++ [[D.v (Value.int IntKind.i64 (an (hdJ (List.drop (0) (List.getD R (Int.toNat i) []))) (3)))]])) then bif isJ [IntKind.i64] (List.drop (0) (List.getD (List.take m W ++ [[D.v (Value.int IntKind.i64 (an (hdJ (List.drop (0) (List.getD R (Int.toNat i) []))) (3)))]]) (addN (0) (Int.toNat i)) [])) then St18 R (IntKind.wrap IntKind.i64 (i + 1)) (List.take m W ++ [[D.v (Value.int IntKind.i64 (an (hdJ (List.drop (0) (List.getD R (Int.toNat i) []))) (3)))]]) (Nat.succ m) (und (hdJ (List.drop (0) (List.getD (List.take m W ++ [[D.v (Value.int IntKind.i64 (an (hdJ (List.drop (0) (List.getD R (Int.toNat i) []))) (3)))]]) (addN (0) (Int.toNat (IntKind.wrap IntKind.i64 (i - 1)))) []))) (hdJ (List.drop (0) (List.getD (List.take m W ++ [[D.v (Value.int IntKind.i64 (an (hdJ (List.drop (0) (List.getD R (Int.toNat i) []))) (3)))]]) (addN (0) (Int.toNat i)) [])))) = St18 R (IntKind.wrap IntKind.i64 (i + 1)) (List.take m W ++ [[D.v (Value.int IntKind.i64 (an (hdJ (List.drop (0) (List.getD R (Int.toNat i) []))) (3)))]]) (Nat.succ m) (und (hdJ (List.drop (0) (List.getD (List.take m W ++ [[D.v (Value.int IntKind.i64 (an (hdJ (List.drop (0) (List.getD R (Int.toNat i) []))) (3)))]]) (addN (0) (Int.toNat (IntKind.wrap IntKind.i64 (i - 1)))) []))) (hdJ (List.drop (0) (List.getD (List.take m W ++ [[D.v (Value.int IntKind.i64 (an (hdJ (List.drop (0) (List.getD R (Int.toNat i) []))) (3)))]]) (addN (0) (Int.toNat i)) [])))) ∧ N (St18 R (IntKind.wrap IntKind.i64 (i + 1)) (List.take m W ++ [[D.v (Value.int IntKind.i64 (an (hdJ (List.drop (0) (List.getD R (Int.toNat i) []))) (3)))]]) (Nat.succ m) (und (hdJ (List.drop (0) (List.getD (List.take m W ++ [[D.v (Value.int IntKind.i64 (an (hdJ (List.drop (0) (List.getD R (Int.toNat i) []))) (3)))]]) (addN (0) (Int.toNat (IntKind.wrap IntKind.i64 (i - 1)))) []))) (hdJ (List.drop (0) (List.getD (List.take m W ++ [[D.v (Value.int IntKind.i64 (an (hdJ (List.drop (0) (List.getD R (Int.toNat i) []))) (3)))]]) (addN (0) (Int.toNat i)) []))))) else False else False else False else False else False else False else St18 R (IntKind.wrap IntKind.i64 (i + 1)) (List.take m W ++ [[D.v (Value.int IntKind.i64 (an (hdJ (List.drop (0) (List.getD R (Int.toNat i) []))) (3)))]]) (Nat.succ m) false = St18 R (IntKind.wrap IntKind.i64 (i + 1)) (List.take m W ++ [[D.v (Value.int IntKind.i64 (an (hdJ (List.drop (0) (List.getD R (Int.toNat i) []))) (3)))]]) (Nat.succ m) false ∧ N (St18 R (IntKind.wrap IntKind.i64 (i + 1)) (List.take m W ++ [[D.v (Value.int IntKind.i64 (an (hdJ (List.drop (0) (List.getD R (Int.toNat i) []))) (3)))]]) (Nat.succ m) false) else False else False else False else St18 R i W m ok = St18 R i W m ok ∧ E (Exit.exit (0)) (St18 R i W m ok)) := by kernel_rfl
def mI (l : List Int) : List (List D) := l.map fun n => [.v (.int .i64 n)]
def b3 (l : List Int) : List Int := l.map fun x => band x 3
def s18 (R : List (List D)) : LSum := fun Q x => x.only [0, 3, 4, 5] [4] = St18 R 0 [] 0 true ∧ Q (.exit 0) (St18 R R.length (mI (b3 (toI R))) R.length (chainN (b3 (toI R)) R.length))
theorem e18 (R : List (List D)) (K : DV → Prop) : (askL Try.prog [(40, sJoin), (42, sChain), (23, sI), (45, sT), (46, sUnd)] [(6, s18 R)] Try.f18 [dR R []] K) = (St18 R (0) [] (0) true = St18 R (0) [] (0) true ∧ bif decide (0 + List.length R ≤ List.length (mI (b3 (toI R)))) then bif okR (cut (mI (b3 (toI R))) (0) (List.length R)) then bif decide (0 + List.length R ≤ List.length (mI (b3 (toI R)))) then bif okR (cut (mI (b3 (toI R))) (0) (List.length R)) then bif (chainI (toI (cut (mI (b3 (toI R))) (0) (List.length R)))).e == 0 then bif (chainI (toI (cut (mI (b3 (toI R))) (0) (List.length R)))).a == chainN (b3 (toI R)) (List.length R) then bif (joinI (toI (cut (mI (b3 (toI R))) (0) (List.length R)))).e == 0 then bif !chainN (b3 (toI R)) (List.length R) then K (DV.c (D.v (Value.bool true))) else bif @Nat.cast Int _ (List.length R) == 0 then bif (joinI (toI (cut (mI (b3 (toI R))) (0) (List.length R)))).a == 0 then K (DV.c (D.v (Value.bool true))) else bif decide (@Nat.cast Int _ (List.length R) > 0) then bif decide (0 ≤ IntKind.wrap IntKind.i64 (@Nat.cast Int _ (List.length R) - 1)) && decide (IntKind.wrap IntKind.i64 (@Nat.cast Int _ (List.length R) - 1) < @Nat.cast Int _ (List.length R)) then bif decide (addN (0) (Int.toNat (IntKind.wrap IntKind.i64 (@Nat.cast Int _ (List.length R) - 1))) < List.length (mI (b3 (toI R)))) then bif isJ [IntKind.i64] (List.drop (0) (List.getD (mI (b3 (toI R))) (addN (0) (Int.toNat (IntKind.wrap IntKind.i64 (@Nat.cast Int _ (List.length R) - 1)))) [])) then K (DV.c (D.v (Value.bool (hdJ (List.drop (0) (List.getD (mI (b3 (toI R))) (addN (0) (Int.toNat (IntKind.wrap IntKind.i64 (@Nat.cast Int _ (List.length R) - 1)))) [])) == (joinI (toI (cut (mI (b3 (toI R))) (0) (List.length R)))).a)))) else False else False else False else K (DV.c (D.v (Value.bool false))) else bif decide (@Nat.cast Int _ (List.length R) > 0) then bif decide (0 ≤ IntKind.wrap IntKind.i64 (@Nat.cast Int _ (List.length R) - 1)) && decide (IntKind.wrap IntKind.i64 (@Nat.cast Int _ (List.length R) - 1) < @Nat.cast Int _ (List.length R)) then bif decide (addN (0) (Int.toNat (IntKind.wrap IntKind.i64 (@Nat.cast Int _ (List.length R) - 1))) < List.length (mI (b3 (toI R)))) then bif isJ [IntKind.i64] (List.drop (0) (List.getD (mI (b3 (toI R))) (addN (0) (Int.toNat (IntKind.wrap IntKind.i64 (@Nat.cast Int _ (List.length R) - 1)))) [])) then K (DV.c (D.v (Value.bool (hdJ (List.drop (0) (List.getD (mI (b3 (toI R))) (addN (0) (Int.toNat (IntKind.wrap IntKind.i64 (@Nat.cast Int _ (List.length R) - 1)))) [])) == (joinI (toI (cut (mI (b3 (toI R))) (0) (List.length R)))).a)))) else False else False else False else K (DV.c (D.v (Value.bool false))) else K (DV.c (D.v (Value.bool false))) else K (DV.c (D.v (Value.bool false))) else K (DV.c (D.v (Value.bool false))) else False else False else False else False) := by kernel_rfl
theorem mI_len (l : List Int) : (mI l).length = l.length := by simp [mI]
theorem toI_mI (l : List Int) : toI (mI l) = l := by
  simp only [toI, mI, List.map_map]
  exact (List.map_congr_left fun _ _ => rfl).trans (List.map_id l)
theorem okR_mI {l : List Int} (h : l.length ≤ 9223372036854775807) : okR (mI l) = true := by
  simp only [okR, Bool.and_eq_true, List.all_eq_true]
  refine ⟨fun r hr => ?_, Nat.ble_eq_true_of_le (by rw [mI_len]; exact h)⟩
  obtain ⟨n, _, rfl⟩ := List.mem_map.1 hr
  exact ⟨rfl, fun d hd => by simp at hd; subst hd; rfl⟩
theorem mI_getD {l : List Int} {i : Nat} (hi : i < l.length) : (mI l).getD i [] = [.v (.int .i64 (l.getD i 0))] := by
  simp [mI, List.getD_eq_getElem?_getD, hi]
theorem mI_push {B : List Int} {i : Nat} (hi : i < B.length) {x : Int} (hx : x = B.getD i 0) : List.take i (mI (B.take i)) ++ [[D.v (.int .i64 x)]] = mI (B.take (i + 1)) := by
  subst hx
  rw [take_s 0 hi]
  have : (mI (B.take i)).length = i := by rw [mI_len, List.length_take]; omega
  rw [List.take_of_length_le (by omega)]
  simp [mI]
theorem take_getD {B : List Int} {i j : Nat} (h : j < i) : (B.take i).getD j 0 = B.getD j 0 := by
  simp [List.getD_eq_getElem?_getD, List.getElem?_take, h]
theorem b3_len (l : List Int) : (b3 l).length = l.length := by simp [b3]
theorem b3_get {l : List Int} {i : Nat} (hi : i < l.length) : band (l.getD i 0) 3 = (b3 l).getD i 0 := by
  simp [b3, List.getD_eq_getElem?_getD, hi]
theorem b3_lab (l : List Int) : (b3 l).any olab = false := by
  rw [List.any_eq_false]
  intro x hx
  obtain ⟨y, _, rfl⟩ := List.mem_map.1 hx
  have : lab (band y 3) = true := by unfold lab upto; rw [mask2]; simp; omega
  simp [olab, this]
theorem lab_get {B : List Int} (h : B.any olab = false) {i : Nat} (hi : i < B.length) : lab (B.getD i 0) = true := by
  rw [List.any_eq_false] at h
  have := h _ (List.getElem_mem hi)
  simpa [olab, List.getD_eq_getElem?_getD, hi] using this
theorem cut_all {W : List (List D)} {n : Nat} (h : W.length = n) : cut W 0 n = W := by subst h; simp [cut]
theorem und_eq {a b : Int} (h : und a b = true) : bor a b = b := by simpa [und] using h
theorem bor0 {b : Int} (h : lab b = true) : bor 0 b = b := by rcases lab_cases h with rfl | rfl | rfl | rfl <;> rfl
theorem chain_last {B : List Int} (hB : B.any olab = false) (hc : chainN B B.length = true) : ∀ i, i < B.length → joinA (B.take (i + 1)) = B.getD i 0
  | 0, hi => by
    rw [← joinA_s hi]
    exact bor0 (lab_get hB hi)
  | i + 1, hi => by
    rw [← joinA_s hi, chain_last hB hc i (by omega)]
    have := chainN_le (i := i + 1 + 1) (by omega) hc
    rw [chainN_s] at this
    simp only [Bool.and_eq_true] at this
    have h2 := this.2
    have h0 : ((i + 1 : Nat) == 0) = false := rfl
    rw [h0, Bool.false_or] at h2
    exact und_eq h2
theorem s18_ok {R : List (List D)} (hR : okR R = true) (hz : R.length ≤ 17592186044000) (Q : Exit → X → Prop) (x : X) (h : s18 R Q x) : XWP Try.prog (.loop (bodyL Try.f18 0)) Q x := by
  obtain ⟨h1, h2⟩ := h
  have hn := okR_len hR
  have hbl : (b3 (toI R)).length = R.length := by rw [b3_len, toI_len]
  refine xwp_roundH (ι := Nat) (H := hkA band bor [(46, sUnd)] []) (fn := Try.f18) (i := 0) (ts := [0, 3, 4, 5]) (ks := [4]) (hkl_ok (.cons o46 .nil)) mixed (loops_nil rfl)
    (fun i => St18 R i (mI ((b3 (toI R)).take i)) i (chainN (b3 (toI R)) i)) (fun i => i ≤ R.length) (fun i => R.length - i) 0 (V18 R) (V18 R) (fun i hi => ?_) (Nat.zero_le _) h1
  show roundA band bor Try.prog _ _ Try.f18 0 _ _ _ _ _ _ _
  rw [e18r]
  by_cases hl : i < R.length
  · have wi : IntKind.wrap .i64 ((i : Int) + 1) = ((i + 1 : Nat) : Int) := wrap_id (by omega) (by omega)
    have hl' : i < (toI R).length := by rw [toI_len]; exact hl
    have hlb : i < (b3 (toI R)).length := by rw [hbl]; exact hl
    have hpush := mI_push hlb (b3_get hl')
    have hle : i ≤ (mI ((b3 (toI R)).take i)).length := by rw [mI_len, List.length_take]; omega
    have hb1 : (i + 1) * 8 ≤ 140737488355328 := by omega
    have hb2 : i + 1 ≤ 9223372036854775807 := by omega
    have hlen : (mI ((b3 (toI R)).take (i + 1))).length = i + 1 := by rw [mI_len, List.length_take]; omega
    have hget : ∀ j, j < i + 1 → (mI ((b3 (toI R)).take (i + 1))).getD j [] = [.v (.int .i64 ((b3 (toI R)).getD j 0))] := fun j hj => by
      rw [mI_getD (by rw [List.length_take]; omega), take_getD hj]
    simp only [Int.ofNat_lt, hl, decide_true, cond_true, Int.natCast_nonneg, Bool.and_self, Int.toNat_natCast, List.drop_zero, okR_get hR hl, toI_get hl, wi, true_and, hle, hb1, hb2, hpush, hlen, Nat.succ_eq_add_one, addN, Nat.lt_succ_self, hget i (Nat.lt_succ_self _)]
    have next : ∀ b, b = chainN (b3 (toI R)) (i + 1) → ∃ p', R.length - p' < R.length - i ∧ p' ≤ R.length ∧ St18 R ((i + 1 : Nat) : Int) (mI ((b3 (toI R)).take (i + 1))) (i + 1) b = St18 R (p' : Int) (mI ((b3 (toI R)).take p')) p' (chainN (b3 (toI R)) p') := fun b hb =>
      ⟨i + 1, by omega, hl, by rw [hb]⟩
    cases hc : chainN (b3 (toI R)) i with
    | false => exact next _ (by rw [chainN_s, hc]; rfl)
    | true =>
      by_cases h0 : i = 0
      · subst h0
        exact next _ (by rw [chainN_s, hc]; rfl)
      · have wj : IntKind.wrap .i64 ((i : Int) - 1) = ((i - 1 : Nat) : Int) := by rw [wrap_id (by omega) (by omega)]; omega
        have hl1 : i - 1 < i + 1 := by omega
        have hz' : ((i : Int) == 0) = false := by simp [h0]
        simp only [hl1, decide_true, cond_true, Int.natCast_nonneg, Bool.and_self, Int.toNat_natCast, List.drop_zero, wj, true_and, hz', cond_false, Int.ofNat_lt, hget _ hl1, isJ, hdJ, Nat.lt_succ_self]
        exact next _ (by rw [chainN_s, hc]; simp [h0])
  · have e : i = R.length := by omega
    subst e
    simp only [Int.ofNat_lt, Nat.lt_irrefl, decide_false, cond_false, true_and]
    have ht : (b3 (toI R)).take R.length = b3 (toI R) := by rw [← hbl, List.take_length]
    rw [ht]
    exact h2
theorem c18 {R : List (List D)} (hR : okR R = true) (hz : R.length ≤ 17592186044000) : CT Try.prog 18 [dR R []] (B true) := by
  refine ct_askL (l := [(40, sJoin), (42, sChain), (23, sI), (45, sT), (46, sUnd)]) (m := [(6, s18 R)]) (.cons o40 (.cons o42 (.cons o23 (.cons o45 (.cons o46 .nil))))) mixed (loops1 rfl (by kernel_rfl) (s18_ok hR hz)) Try.func18 rfl rfl rfl ?_
  rw [e18]
  have hn := okR_len hR
  have hbl : (b3 (toI R)).length = R.length := by rw [b3_len, toI_len]
  have hlab := b3_lab (toI R)
  generalize b3 (toI R) = B at *
  have hml : (mI B).length = R.length := by rw [mI_len, hbl]
  have hj : joinI B = ⟨joinA B, 0⟩ := by simp [joinI, hlab]
  have hc : chainI B = ⟨chainN B B.length, 0⟩ := by simp [chainI, hlab]
  simp only [cut_all hml, hml, okR_mI (show B.length ≤ 9223372036854775807 by omega), toI_mI, hj, hc, hbl, Nat.zero_add, Nat.le_refl, decide_true, cond_true, beq_self_eq_true, true_and]
  cases hcn : chainN B R.length with
  | false => exact trivial
  | true =>
    rcases Nat.eq_zero_or_pos R.length with h0 | h0
    · have : B = [] := List.eq_nil_of_length_eq_zero (by omega)
      subst this
      rw [h0]; exact trivial
    · have h1 : ((R.length : Int) == 0) = false := beq_eq_false_iff_ne.2 (by omega)
      have h2 : decide ((R.length : Int) > 0) = true := decide_eq_true (by omega)
      have wj : IntKind.wrap .i64 ((R.length : Int) - 1) = ((R.length - 1 : Nat) : Int) := by rw [wrap_id (by omega) (by omega)]; omega
      have h3 : R.length - 1 < R.length := by omega
      have h4 : R.length - 1 < B.length := by omega
      have hlast := chain_last hlab (by rw [hbl]; exact hcn) (R.length - 1) h4
      have he : R.length - 1 + 1 = B.length := by omega
      rw [he, List.take_length] at hlast
      simp only [h1, h2, wj, Int.natCast_nonneg, Int.ofNat_lt, Int.toNat_natCast, h3, decide_true, Bool.and_self, cond_true, cond_false, Bool.not_true, addN, List.drop_zero, mI_getD h4, isJ, hdJ, hlast]
      simp
theorem c18' (rows : List (List Int)) (hw : ∀ r ∈ rows, r.length = 1 ∧ ∀ n ∈ r, (Lit.int .i64 n).wf = true) (hl : rows.length * 8 ≤ 140737488351232) : CT Try.prog 18 [.c (.s 0 1 (rows.map fun r => r.map vi) [])] (B true) :=
  c18 (okR_rows rows hw (by omega)) (by simp; omega)
end Vm
