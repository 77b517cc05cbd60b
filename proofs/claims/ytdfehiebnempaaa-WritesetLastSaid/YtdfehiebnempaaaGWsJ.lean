/- What the functions of this text do, told by an interpreter that is proved right (YtdfehiebnempaaaGA to GD). My own work. -/
import Derived.Test.YtdfehiebnempaaaGWsG
namespace Vm
open Go Go.Proofs
set_option linter.unusedSimpArgs false
set_option linter.unusedVariables false
set_option maxRecDepth 100000
/-! ### writes as a table -/
theorem mem_get {l : List (List Int)} {x : List Int} (h : x ∈ l) : ∃ i, i < l.length ∧ l.getD i [] = x := by
  obtain ⟨i, hi, e⟩ := List.mem_iff_getElem.1 h
  exact ⟨i, hi, by simp [List.getD_eq_getElem?_getD, hi, e]⟩
theorem get_mem {l : List (List Int)} {i : Nat} (h : i < l.length) : l.getD i [] ∈ l := by
  have : l.getD i [] = l[i] := by simp [List.getD_eq_getElem?_getD, h]
  rw [this]; exact List.getElem_mem h
theorem okWs_mem {l : List (List Int)} (h : okWs l) {x : List Int} (hx : x ∈ l) : okw x = true := by
  obtain ⟨i, hi, rfl⟩ := mem_get hx
  exact (h i hi).1
theorem key_in {r : List Int} (h : okw r = true) : 0 ≤ key r ∧ key r ≤ 15 := by
  have := (okw_in h).1
  unfold inW at this; unfold key; omega
theorem key_inj {l : List (List Int)} (h : okWs l) {x y : List Int} (hx : x ∈ l) (hy : y ∈ l) (e : key x = key y) : x = y := by
  obtain ⟨i, hi, rfl⟩ := mem_get hx
  obtain ⟨j, hj, rfl⟩ := mem_get hy
  rcases Nat.lt_trichotomy i j with h1 | h1 | h1
  · have := okWs_lt h i j h1 hj; omega
  · rw [h1]
  · have := okWs_lt h j i h1 hi; omega
theorem mem_take_iff {l : List (List Int)} {k : Int} (h : okWs l) {x : List Int} : x ∈ l.take (lessW l k) ↔ x ∈ l ∧ key x < k := by
  constructor
  · intro hx
    obtain ⟨i, hi, rfl⟩ := List.mem_take_iff_getElem.1 hx
    have hl : i < l.length := by omega
    have e : l.getD i [] = l[i] := by simp [List.getD_eq_getElem?_getD, hl]
    have := lessW_lt (l := l) (k := k) (h := i) (by omega)
    rw [e] at this
    exact ⟨List.getElem_mem hl, this⟩
  · rintro ⟨hx, hk⟩
    obtain ⟨i, hi, rfl⟩ := mem_get hx
    have hm : i < lessW l k := by
      rcases Nat.lt_or_ge i (lessW l k) with h1 | h1
      · exact h1
      · exfalso
        have h2 := lessW_at (l := l) (k := k) (by omega)
        by_cases e : i = lessW l k
        · rw [e] at hk; omega
        · have := okWs_lt h (lessW l k) i (by omega) hi; omega
    have e : l.getD i [] = l[i] := by simp [List.getD_eq_getElem?_getD, hi]
    rw [e]
    exact List.mem_take_iff_getElem.2 ⟨i, by omega, rfl⟩
theorem mem_drop_iff {l : List (List Int)} {k : Int} (h : okWs l) {x : List Int} : x ∈ l.drop (bif hasW l k then lessW l k + 1 else lessW l k) ↔ x ∈ l ∧ k < key x := by
  have hle := lessW_le l k
  constructor
  · intro hx
    obtain ⟨i, hi, rfl⟩ := List.mem_drop_iff_getElem.1 hx
    refine ⟨List.getElem_mem _, ?_⟩
    revert hi
    cases hh : hasW l k with
    | true =>
      simp only [cond_true]
      intro hi
      have hm : lessW l k < l.length := by omega
      have h2 := lessW_at hm
      have h3 := okWs_lt h (lessW l k) (lessW l k + 1 + i) (by omega) (by omega)
      have e : l.getD (lessW l k + 1 + i) [] = l[lessW l k + 1 + i]'(by omega) := by simp [List.getD_eq_getElem?_getD, show lessW l k + 1 + i < l.length by omega]
      rw [← e]; omega
    | false =>
      simp only [cond_false]
      intro hi
      have hm : lessW l k < l.length := by omega
      have h2 := lessW_at hm
      have h4 : key (l.getD (lessW l k) []) ≠ k := by
        unfold hasW at hh
        rw [decide_eq_true hm, Bool.true_and] at hh
        simpa using hh
      have e : l.getD (lessW l k + i) [] = l[lessW l k + i]'(by omega) := by simp [List.getD_eq_getElem?_getD, show lessW l k + i < l.length by omega]
      rw [← e]
      by_cases hi0 : i = 0
      · subst hi0; rw [Nat.add_zero]; omega
      · have h3 := okWs_lt h (lessW l k) (lessW l k + i) (by omega) (by omega); omega
  · rintro ⟨hx, hk⟩
    obtain ⟨i, hi, rfl⟩ := mem_get hx
    have hm : lessW l k ≤ i := by
      rcases Nat.lt_or_ge i (lessW l k) with h1 | h1
      · have := lessW_lt h1; omega
      · exact h1
    have e : l.getD i [] = l[i] := by simp [List.getD_eq_getElem?_getD, hi]
    cases hh : hasW l k with
    | true =>
      have hne : i ≠ lessW l k := fun e2 => by
        unfold hasW at hh
        simp only [Bool.and_eq_true, decide_eq_true_eq] at hh
        rw [e2] at hk; omega
      simp only [cond_true]
      rw [e]
      exact List.mem_drop_iff_getElem.2 ⟨i - (lessW l k + 1), by omega, by congr 1; omega⟩
    | false =>
      simp only [cond_false]
      rw [e]
      exact List.mem_drop_iff_getElem.2 ⟨i - lessW l k, by omega, by congr 1; omega⟩
theorem mem_put {l : List (List Int)} (h : okWs l) {r x : List Int} : x ∈ putW l r ↔ x = r ∨ (x ∈ l ∧ key x ≠ key r) := by
  unfold putW
  rw [List.mem_append, List.mem_cons, mem_take_iff h, mem_drop_iff h]
  constructor
  · rintro (⟨h1, h2⟩ | h1 | ⟨h1, h2⟩)
    · exact .inr ⟨h1, by omega⟩
    · exact .inl h1
    · exact .inr ⟨h1, by omega⟩
  · rintro (h1 | ⟨h1, h2⟩)
    · exact .inr (.inl h1)
    · rcases Int.lt_or_gt_of_ne h2 with h3 | h3
      · exact .inl ⟨h1, h3⟩
      · exact .inr (.inr ⟨h1, h3⟩)
/-- Rising, row by row. -/
theorem okWs_iff (l : List (List Int)) : okWs l ↔ (∀ x ∈ l, okw x = true) ∧ l.Pairwise fun x y => key x < key y := by
  constructor
  · intro h
    refine ⟨fun x hx => okWs_mem h hx, ?_⟩
    rw [List.pairwise_iff_getElem]
    intro i j hi hj hij
    have := okWs_lt h i j hij hj
    simpa [List.getD_eq_getElem?_getD, hi, hj] using this
  · rintro ⟨h1, h2⟩ i hi
    refine ⟨h1 _ (get_mem hi), fun h0 => ?_⟩
    rw [List.pairwise_iff_getElem] at h2
    have := h2 (i - 1) i (by omega) hi (by omega)
    simpa [List.getD_eq_getElem?_getD, hi, show i - 1 < l.length by omega] using this
theorem okWs_put {l : List (List Int)} (h : okWs l) {r : List Int} (hr : okw r = true) : okWs (putW l r) := by
  obtain ⟨h1, h2⟩ := (okWs_iff l).1 h
  refine (okWs_iff _).2 ⟨fun x hx => ?_, ?_⟩
  · rcases (mem_put h).1 hx with rfl | ⟨hx, _⟩
    · exact hr
    · exact h1 x hx
  · unfold putW
    rw [List.pairwise_append, List.pairwise_cons]
    refine ⟨h2.sublist (List.take_sublist _ _), ⟨fun y hy => ((mem_drop_iff h).1 hy).2, h2.sublist (List.drop_sublist _ _)⟩, fun x hx y hy => ?_⟩
    have hx := ((mem_take_iff h).1 hx).2
    rcases List.mem_cons.1 hy with rfl | hy
    · exact hx
    · have := ((mem_drop_iff h).1 hy).2; omega
theorem len_le16 {l : List (List Int)} (h : okWs l) : l.length ≤ 16 := by
  rcases Nat.lt_or_ge 16 l.length with h1 | h1
  · exfalso
    have key_ge : ∀ i : Nat, i < l.length → (i : Int) ≤ key (l.getD i []) := by
      intro i
      induction i with
      | zero => intro hi; have := key_in (h 0 hi).1; omega
      | succ i ih => intro hi; have := ih (by omega); have := okWs_lt h i (i + 1) (by omega) hi; omega
    have h2 := key_ge 16 h1
    have := key_in (h 16 h1).1
    omega
  · exact h1
theorem wmay_put {l : List (List Int)} (h : wmay l = true) {r : List Int} (hr : okw r = true) : wmay (putW l r) = true := by
  have hp := okWs_put ((wmay_iff l).1 h).2 hr
  exact (wmay_iff _).2 ⟨len_le16 hp, hp⟩
theorem rising_ext : ∀ {l m : List (List Int)}, l.Pairwise (fun x y => key x < key y) → m.Pairwise (fun x y => key x < key y) → (∀ x, x ∈ l ↔ x ∈ m) → l = m
  | [], [], _, _, _ => rfl
  | [], y :: m, _, _, h => by have := (h y).2 (by simp); cases this
  | x :: l, [], _, _, h => by have := (h x).1 (by simp); cases this
  | x :: l, y :: m, h1, h2, h => by
    rw [List.pairwise_cons] at h1 h2
    have e : x = y := by
      rcases List.mem_cons.1 ((h x).1 (by simp)) with e | hx
      · exact e
      · rcases List.mem_cons.1 ((h y).2 (by simp)) with e | hy
        · exact e.symm
        · have := h2.1 x hx; have := h1.1 y hy; omega
    subst e
    rw [rising_ext h1.2 h2.2 fun z => ?_]
    constructor
    · intro hz
      rcases List.mem_cons.1 ((h z).1 (List.mem_cons_of_mem _ hz)) with e | hz2
      · subst e; have := h1.1 z hz; omega
      · exact hz2
    · intro hz
      rcases List.mem_cons.1 ((h z).2 (List.mem_cons_of_mem _ hz)) with e | hz2
      · subst e; have := h2.1 z hz; omega
      · exact hz2
theorem okWs_ext {l m : List (List Int)} (h1 : okWs l) (h2 : okWs m) (h : ∀ x, x ∈ l ↔ x ∈ m) : l = m := rising_ext ((okWs_iff l).1 h1).2 ((okWs_iff m).1 h2).2 h
theorem isT_key {a b : Int} (ha : 0 ≤ a ∧ a ≤ 3) (hb : 0 ≤ b ∧ b ≤ 3) {r : List Int} (hr : okw r = true) : isT a b r = decide (key r = 4 * a + b) := by
  have := (okw_in hr).1
  unfold inW at this
  cases h : isT a b r with
  | true =>
    obtain ⟨h1, h2⟩ := isT_iff.1 h
    exact (decide_eq_true (by unfold key; omega)).symm
  | false =>
    refine (decide_eq_false fun e => ?_).symm
    unfold key at e
    have : isT a b r = true := isT_iff.2 ⟨by omega, by omega⟩
    rw [h] at this; cases this
theorem find_T {l : List (List Int)} (h : okWs l) {x : List Int} (hx : x ∈ l) : l.find? (isT (x.getD 0 0) (x.getD 1 0)) = some x := by
  have hin := (okw_in (okWs_mem h hx)).1
  cases hf : l.find? (isT (x.getD 0 0) (x.getD 1 0)) with
  | none =>
    have := List.find?_eq_none.1 hf x hx
    rw [isT_iff.2 ⟨rfl, rfl⟩] at this
    exact absurd rfl this
  | some y =>
    have hy := List.mem_of_find?_eq_some hf
    obtain ⟨h1, h2⟩ := isT_iff.1 (List.find?_some hf)
    rw [key_inj h hy hx (by unfold key; omega)]
theorem fd_of {l : List (List Int)} (h : wmay l = true) {x : List Int} (hx : x ∈ l) : fdB l (x.getD 0 0) (x.getD 1 0) = true ∧ fdV l (x.getD 0 0) (x.getD 1 0) = x.getD 2 0 := by
  unfold fdB fdV
  have hf := find_T ((wmay_iff l).1 h).2 hx
  rw [h]
  simp only [cond_true]
  rw [hf]
  refine ⟨?_, rfl⟩
  exact List.any_eq_true.2 ⟨x, hx, isT_iff.2 ⟨rfl, rfl⟩⟩
end Vm
