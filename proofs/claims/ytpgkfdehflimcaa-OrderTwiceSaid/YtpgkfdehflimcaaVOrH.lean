/- What the functions of this text do, told by an interpreter that is proved right (YtpgkfdehflimcaaVA to VD). My own work. -/
import Derived.Test.YtpgkfdehflimcaaVOrG
namespace Vm
open Go Go.Proofs
set_option linter.unusedSimpArgs false
set_option linter.unusedVariables false
theorem und_bor {a b t : Int} (ha : lab a = true) (hb : lab b = true) (ht : lab t = true) (h1 : und a t = true) (h2 : und b t = true) : und (bor a b) t = true := by
  rcases lab_cases ha with rfl | rfl | rfl | rfl <;> rcases lab_cases hb with rfl | rfl | rfl | rfl <;> rcases lab_cases ht with rfl | rfl | rfl | rfl <;> revert h1 h2 <;> decide +kernel
theorem und_borl {a b : Int} (ha : lab a = true) (hb : lab b = true) : und a (bor a b) = true ∧ und b (bor a b) = true := by
  rcases lab_cases ha with rfl | rfl | rfl | rfl <;> rcases lab_cases hb with rfl | rfl | rfl | rfl <;> decide +kernel
theorem und_trans {a b c : Int} (ha : lab a = true) (hb : lab b = true) (hc : lab c = true) (h1 : und a b = true) (h2 : und b c = true) : und a c = true := by
  rcases lab_cases ha with rfl | rfl | rfl | rfl <;> rcases lab_cases hb with rfl | rfl | rfl | rfl <;> rcases lab_cases hc with rfl | rfl | rfl | rfl <;> revert h1 h2 <;> decide +kernel
theorem und_anti {a b : Int} (ha : lab a = true) (hb : lab b = true) (h1 : und a b = true) (h2 : und b a = true) : a = b := by
  rcases lab_cases ha with rfl | rfl | rfl | rfl <;> rcases lab_cases hb with rfl | rfl | rfl | rfl <;> revert h1 h2 <;> decide +kernel
theorem und_zero {t : Int} (ht : lab t = true) : und 0 t = true := by
  rcases lab_cases ht with rfl | rfl | rfl | rfl <;> decide +kernel
theorem lab_mem {B : List Int} (h : B.any olab = false) {v : Int} (hv : v ∈ B) : lab v = true := by
  rw [List.any_eq_false] at h
  simpa [olab] using h v hv
theorem join_up {t : Int} (ht : lab t = true) : ∀ (B : List Int) (a : Int), lab a = true → B.any olab = false → und a t = true → (∀ v ∈ B, und v t = true) → und (B.foldl bor a) t = true
  | [], a, _, _, h, _ => h
  | b :: B, a, ha, hB, h, hv => by
    simp only [List.any_cons, Bool.or_eq_false_iff] at hB
    have hb : lab b = true := by simpa [olab] using hB.1
    exact join_up ht B (bor a b) (bor_lab a b ha hb) hB.2 (und_bor ha hb ht h (hv b (by simp))) fun v hm => hv v (by simp [hm])
theorem join_in : ∀ (B : List Int) (a : Int), lab a = true → B.any olab = false → und a (B.foldl bor a) = true ∧ ∀ v ∈ B, und v (B.foldl bor a) = true
  | [], a, ha, _ => ⟨by rcases lab_cases ha with rfl | rfl | rfl | rfl <;> decide +kernel, by simp⟩
  | b :: B, a, ha, hB => by
    simp only [List.any_cons, Bool.or_eq_false_iff] at hB
    have hb : lab b = true := by simpa [olab] using hB.1
    have hab := bor_lab a b ha hb
    obtain ⟨i1, i2⟩ := join_in B (bor a b) hab hB.2
    have hl : lab (B.foldl bor (bor a b)) = true := by
      have key : ∀ (l : List Int) (a : Int), lab a = true → l.any olab = false → lab (l.foldl bor a) = true := by
        intro l
        induction l with
        | nil => intro a ha _; exact ha
        | cons b l ih =>
          intro a ha hl
          simp only [List.any_cons, Bool.or_eq_false_iff] at hl
          have hb : lab b = true := by simpa [olab] using hl.1
          exact ih _ (bor_lab a b ha hb) hl.2
      exact key B _ hab hB.2
    have hu := und_borl ha hb
    refine ⟨und_trans ha hab hl hu.1 i1, fun v hv => ?_⟩
    rcases List.mem_cons.1 hv with rfl | hv
    · exact und_trans hb hab hl hu.2 i1
    · exact i2 v hv
theorem joinA_eq {B B' : List Int} (h : B.any olab = false) (h' : B'.any olab = false) (hm : ∀ x, x ∈ B ↔ x ∈ B') : joinA B = joinA B' := by
  have l1 := joinA_lab h
  have l2 := joinA_lab h'
  have i1 := (join_in B 0 rfl h).2
  have i2 := (join_in B' 0 rfl h').2
  exact und_anti l1 l2 (join_up l2 B 0 rfl h (und_zero l2) fun v hv => i2 v ((hm v).1 hv)) (join_up l1 B' 0 rfl h' (und_zero l1) fun v hv => i1 v ((hm v).2 hv))

theorem rot_len (l : List Int) (q : Nat) : (rot l q).length = l.length := by simp [rot]
theorem rot_get {l : List Int} {q i : Nat} (hi : i < l.length) : (rot l q).getD i 0 = l.getD ((i + q) % l.length) 0 := by
  simp [rot, List.getD_eq_getElem?_getD, hi]
theorem rot_mem {l : List Int} {q : Nat} (hq : l.length = 0 ∨ q < l.length) (x : Int) : x ∈ l ↔ x ∈ rot l q := by
  constructor
  · intro hx
    obtain ⟨i, hi, rfl⟩ := List.mem_iff_getElem.1 hx
    have hq : q < l.length := by omega
    refine List.mem_map.2 ⟨(i + (l.length - q)) % l.length, by simp; exact Nat.mod_lt _ (by omega), ?_⟩
    have e : ((i + (l.length - q)) % l.length + q) % l.length = i := by
      rw [Nat.mod_add_mod]
      have : i + (l.length - q) + q = i + l.length := by omega
      rw [this, Nat.add_mod_right, Nat.mod_eq_of_lt hi]
    rw [e]
    simp [List.getD_eq_getElem?_getD, hi]
  · intro hx
    obtain ⟨i, hi, rfl⟩ := List.mem_map.1 hx
    have hi : i < l.length := by simpa using hi
    have hm : (i + q) % l.length < l.length := Nat.mod_lt _ (by omega)
    simp [List.getD_eq_getElem?_getD, hm]

theorem s17_ok {R : List (List D)} {at' top : Int} (hR : okR R = true) (hz : R.length ≤ 17592186044000) (Q : Exit → X → Prop) (y : X) (h : s17 R at' top Q y) : XWP Try.prog (.loop (bodyL Try.f17 0)) Q y := by
  obtain ⟨h1, h2⟩ := h
  have hn := okR_len hR
  generalize hqq : (atQ at' R.length).toNat = q at h2
  have hbl : (b3 (toI R)).length = R.length := by rw [b3_len, toI_len]
  have hbl' : (b3 (rot (toI R) q)).length = R.length := by rw [b3_len, rot_len, toI_len]
  refine xwp_roundH (ι := Nat) (H := hkA band bor [] []) (fn := Try.f17) (i := 0) (ts := [0, 1, 2, 6, 7, 8, 9, 10]) (ks := [8, 9]) (hkl_ok .nil) mixed (loops_nil rfl)
    (fun i => St17 R at' top i (mI ((b3 (toI R)).take i)) (mI ((b3 (rot (toI R) q)).take i)) i) (fun i => i ≤ R.length) (fun i => R.length - i) 0 (V17 R at' top) (V17 R at' top) (fun i hi => ?_) (Nat.zero_le _) h1
  show roundA band bor Try.prog _ _ Try.f17 0 _ _ _ _ _ _ _
  rw [e17r]
  by_cases hl : i < R.length
  · have wi : IntKind.wrap .i64 ((i : Int) + 1) = ((i + 1 : Nat) : Int) := wrap_id (by omega) (by omega)
    obtain ⟨q', hq', eq'⟩ := atQ_ok at' (n := R.length) (by omega) (by omega)
    have : q' = q := by rw [← hqq, eq']; simp
    subst this
    have wq : IntKind.wrap .i64 ((i : Int) + (q' : Int)) = ((i + q' : Nat) : Int) := by rw [wrap_id (by omega) (by omega)]; omega
    have tq : Int.tmod ((i + q' : Nat) : Int) (R.length : Int) = (((i + q') % R.length : Nat) : Int) := by rw [Int.tmod_eq_emod_of_nonneg (by omega)]; omega
    have hlq : (i + q') % R.length < R.length := Nat.mod_lt _ (by omega)
    have hu : ¬ (IntKind.wrap .u64 (R.length : Int) = 0) := by rw [wrap_u64 (by omega) (by omega)]; omega
    have hu2 : ¬ ((R.length : Int) = 0) := by omega
    have hl' : i < (toI R).length := by rw [toI_len]; exact hl
    have hlb : i < (b3 (toI R)).length := by rw [hbl]; omega
    have hlb' : i < (b3 (rot (toI R) q')).length := by rw [hbl']; omega
    have hpush := mI_push hlb (b3_get hl')
    have hpush' := mI_push hlb' (x := band ((toI R).getD ((i + q') % R.length) 0) 3) (by
      rw [← b3_get (by rw [rot_len]; exact hl'), rot_get hl', toI_len])
    have hle : i ≤ (mI ((b3 (toI R)).take i)).length := by rw [mI_len, List.length_take]; omega
    have hle' : i ≤ (mI ((b3 (rot (toI R) q')).take i)).length := by rw [mI_len, List.length_take]; omega
    have hb1 : (i + 1) * 8 ≤ 140737488355328 := by omega
    have hb2 : i + 1 ≤ 9223372036854775807 := by omega
    simp only [atQ_def, eq', wq, tq, hu, hu2, decide_false, cond_false, Int.ofNat_lt, hl, decide_true, cond_true, Int.natCast_nonneg, Bool.and_self, Int.toNat_natCast, List.drop_zero, okR_get hR hl, toI_get hl, okR_get hR hlq, toI_get hlq, hlq, wi, true_and, hle, hle', hb1, hb2, hpush, hpush', Nat.succ_eq_add_one]
    exact ⟨i + 1, by omega, hl, rfl⟩
  · have e : i = R.length := by omega
    subst e
    simp only [Int.ofNat_lt, Nat.lt_irrefl, decide_false, cond_false, true_and]
    have t1 : (b3 (toI R)).take R.length = b3 (toI R) := by rw [← hbl, List.take_length]
    have t2 : (b3 (rot (toI R) q)).take R.length = b3 (rot (toI R) q) := by rw [← hbl', List.take_length]
    rw [t1, t2]
    exact h2
theorem all_take {l : List Int} {i : Nat} {p : Int → Bool} (hi : i < l.length) : (l.take (i + 1)).all p = ((l.take i).all p && p (l.getD i 0)) := by
  rw [take_s 0 hi]; simp
theorem su17_ok {R : List (List D)} {B : List Int} (hB : B.length = R.length) (hz : R.length ≤ 17592186044000) (Q : Exit → X → Prop) (y : X) (h : su17 R B Q y) : XWP Try.prog (.loop (bodyL Try.f17 1)) Q y := by
  unfold su17 at h
  obtain ⟨a, h⟩ := withI_spec h
  obtain ⟨e, h⟩ := withI_spec h
  obtain ⟨b, h⟩ := withI_spec h
  obtain ⟨f, h⟩ := withI_spec h
  obtain ⟨t, h1, h2⟩ := withI_spec h
  obtain ⟨hp, h2⟩ := h2 _ _ rfl rfl
  refine xwp_roundH (ι := Nat) (H := hkA band bor [(46, sUnd)] []) (fn := Try.f17) (i := 1) (ts := [6, 7, 9, 11, 12, 13, 14, 15, 16, 17]) (ks := [8]) (hkl_ok (.cons o46 .nil)) mixed (loops_nil rfl)
    (fun i => Su17 (mI B) R.length a e b f t i ((B.take i).all fun v => und v t) false) (fun i => i ≤ R.length) (fun i => R.length - i) 0 (Vu17 (mI B) R.length) (Vu17 (mI B) R.length) (fun i hi => ?_) (Nat.zero_le _) h1
  show roundA band bor Try.prog _ _ Try.f17 1 _ _ _ _ _ _ _
  rw [e17u]
  by_cases hl : i < R.length
  · have wi : IntKind.wrap .i64 ((i : Int) + 1) = ((i + 1 : Nat) : Int) := wrap_id (by omega) (by omega)
    have hlB : i < B.length := by omega
    have hml : (mI B).length = R.length := by rw [mI_len, hB]
    have hu : und (B.getD i 0) a = true := by
      have := List.all_eq_true.1 hp (B.getD i 0) (by simp [List.getD_eq_getElem?_getD, hlB])
      exact this
    simp only [Int.ofNat_lt, hl, decide_true, cond_true, Int.natCast_nonneg, Bool.and_self, Int.toNat_natCast, List.drop_zero, addN, hml, mI_getD hlB, isJ, hdJ, hu, Bool.not_true, cond_false, wi, true_and]
    have next : ∀ c, c = ((B.take (i + 1)).all fun v => und v t) → ∃ p', R.length - p' < R.length - i ∧ p' ≤ R.length ∧ Su17 (mI B) R.length a e b f t ((i + 1 : Nat) : Int) c false = Su17 (mI B) R.length a e b f t (p' : Int) ((B.take p').all fun v => und v t) false := fun c hc =>
      ⟨i + 1, by omega, hl, by rw [hc]⟩
    have hs := all_take (p := fun v => und v t) hlB
    cases hc : (B.take i).all fun v => und v t with
    | false => exact next _ (by rw [hs, hc]; rfl)
    | true => exact next _ (by rw [hs, hc]; rfl)
  · have e' : i = R.length := by omega
    subst e'
    simp only [Int.ofNat_lt, Nat.lt_irrefl, decide_false, cond_false, true_and]
    have t1 : B.take R.length = B := by rw [← hB, List.take_length]
    rw [t1]
    exact h2
theorem c17 {R : List (List D)} (at' top : Int) (hR : okR R = true) (hz : R.length ≤ 17592186044000) : CT Try.prog 17 [dR R [], I at', I top] (B true) := by
  have hbl : (b3 (toI R)).length = R.length := by rw [b3_len, toI_len]
  refine ct_askL (l := [(40, sJoin), (23, sI), (45, sT), (46, sUnd)]) (m := [(6, s17 R at' top), (15, su17 R (b3 (toI R)))]) (.cons o40 (.cons o23 (.cons o45 (.cons o46 .nil)))) mixed (loops_ok 2 rfl fun i hi s hs Q x hq => ?_) Try.func17 rfl rfl rfl ?_
  · match i, hi with
    | 0, _ =>
      have e : loopId (bodyL Try.f17 0) = 6 := by kernel_rfl
      rw [e] at hs
      have hs' : some (s17 R at' top) = some s := hs
      cases hs'
      exact s17_ok hR hz Q x hq
    | 1, _ =>
      have e : loopId (bodyL Try.f17 1) = 15 := by kernel_rfl
      rw [e] at hs
      have hs' : some (su17 R (b3 (toI R))) = some s := hs
      cases hs'
      exact su17_ok hbl hz Q x hq
  · show askA band bor Try.prog _ _ Try.f17 _ _
    rw [e17]
    have hn := okR_len hR
    have hq : (toI R).length = 0 ∨ (atQ at' R.length).toNat < (toI R).length := by
      rw [toI_len]
      rcases Nat.eq_zero_or_pos R.length with h0 | h0
      · exact .inl h0
      · obtain ⟨q, h1, h2⟩ := atQ_ok at' (n := R.length) h0 (by omega)
        right; rw [h2]; simpa using h1
    have hbl' : (b3 (rot (toI R) (atQ at' R.length).toNat)).length = R.length := by rw [b3_len, rot_len, toI_len]
    have hlab := b3_lab (toI R)
    have hlab' := b3_lab (rot (toI R) (atQ at' R.length).toNat)
    have hmem : ∀ x, x ∈ b3 (toI R) ↔ x ∈ b3 (rot (toI R) (atQ at' R.length).toNat) := fun x => by
      simp only [b3, List.mem_map]
      exact ⟨fun ⟨y, h1, h2⟩ => ⟨y, (rot_mem hq y).1 h1, h2⟩, fun ⟨y, h1, h2⟩ => ⟨y, (rot_mem hq y).2 h1, h2⟩⟩
    generalize b3 (rot (toI R) (atQ at' R.length).toNat) = B' at *
    generalize b3 (toI R) = B at *
    have hml : (mI B).length = R.length := by rw [mI_len, hbl]
    have hml' : (mI B').length = R.length := by rw [mI_len, hbl']
    have ok1 := okR_mI (l := B) (by omega)
    have ok2 := okR_mI (l := B') (by omega)
    have hje := joinA_eq hlab hlab' hmem
    have ht : lab (band top 3) = true := by unfold lab upto; rw [mask2]; simp; omega
    simp only [cut_all hml, cut_all hml', hml, hml', Nat.zero_add, Nat.le_refl, decide_true, cond_true, ok1, ok2, toI_mI, joinI_ok hlab, joinI_ok hlab', true_and, beq_self_eq_true, ← hje]
    intro p q hp hq'
    refine ⟨?_, ?_⟩
    · rw [hp, List.all_eq_true]
      exact (join_in B 0 rfl hlab).2
    · cases hqv : q with
      | false => exact trivial
      | true =>
        rw [hqv] at hq'
        have hall : ∀ v ∈ B, und v (band top 3) = true := List.all_eq_true.1 hq'.symm
        have : und (joinA B) (band top 3) = true := join_up ht B 0 rfl hlab (und_zero ht) hall
        simp only [this]
        exact trivial
theorem c17' (rows : List (List Int)) (at' top : Int) (hw : ∀ r ∈ rows, r.length = 1 ∧ ∀ n ∈ r, (Lit.int .i64 n).wf = true) (hl : rows.length * 8 ≤ 140737488351232) : CT Try.prog 17 [.c (.s 0 1 (rows.map fun r => r.map vi) []), I at', I top] (B true) :=
  c17 at' top (okR_rows rows hw (by omega)) (by simp; omega)
theorem c19' (rows : List (List Int)) (at' x : Int) (hw : ∀ r ∈ rows, r.length = 1 ∧ ∀ n ∈ r, (Lit.int .i64 n).wf = true) (hl : rows.length * 8 ≤ 140737488351232) : CT Try.prog 19 [.c (.s 0 1 (rows.map fun r => r.map vi) []), I at', I x] (B true) :=
  c19 at' x (okR_rows rows hw (by omega)) (by simp; omega)
theorem c20' (rows : List (List Int)) (mo cu : Int) (hw : ∀ r ∈ rows, r.length = 1 ∧ ∀ n ∈ r, (Lit.int .i64 n).wf = true) (hl : rows.length * 8 ≤ 140737488351232) : CT Try.prog 20 [.c (.s 0 1 (rows.map fun r => r.map vi) []), I mo, I cu] (B true) :=
  c20 mo cu (okR_rows rows hw (by omega)) (by simp; omega)
end Vm
