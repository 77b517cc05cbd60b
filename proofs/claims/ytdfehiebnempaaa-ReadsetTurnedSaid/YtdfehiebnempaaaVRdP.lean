/- What the functions of this text do, told by an interpreter that is proved right (YtdfehiebnempaaaVA to VD). My own work. -/
import Derived.Test.YtdfehiebnempaaaVRdE
namespace Vm
open Go Go.Proofs
set_option linter.unusedSimpArgs false
set_option linter.unusedVariables false
/-! ### reads: plain law -/
theorem rmay_iff {l : List (List Int)} : rmay l = true ↔ l.length ≤ 16 ∧ ∀ i, i < l.length → badR l i = false := by
  unfold rmay
  simp only [Bool.and_eq_true, decide_eq_true_eq, Bool.not_eq_true', List.any_eq_false, List.mem_range, Bool.not_eq_true]
theorem getD_take {α : Type} {l : List α} {d : α} {k i : Nat} (h : i < k) : (l.take k).getD i d = l.getD i d := by simp [List.getD_eq_getElem?_getD, List.getElem?_take, h]
theorem getD_drop {α : Type} {l : List α} {d : α} {k i : Nat} : (l.drop k).getD i d = l.getD (k + i) d := by simp [List.getD_eq_getElem?_getD]
theorem rmay_take {l : List (List Int)} (h : rmay l = true) (k : Nat) : rmay (l.take k) = true := by
  obtain ⟨h1, h2⟩ := rmay_iff.1 h
  refine rmay_iff.2 ⟨by rw [List.length_take]; omega, fun i hi => ?_⟩
  rw [List.length_take] at hi
  have := h2 i (by omega)
  unfold badR at this ⊢
  rw [getD_take (by omega), List.take_take, Nat.min_eq_left (by omega)]
  exact this
theorem rmay_drop {l : List (List Int)} (h : rmay l = true) (k : Nat) : rmay (l.drop k) = true := by
  obtain ⟨h1, h2⟩ := rmay_iff.1 h
  refine rmay_iff.2 ⟨by rw [List.length_drop]; omega, fun i hi => ?_⟩
  rw [List.length_drop] at hi
  have := h2 (k + i) (by omega)
  unfold badR at this ⊢
  rw [getD_drop]
  rw [Bool.or_eq_false_iff] at this ⊢
  refine ⟨this.1, ?_⟩
  have h3 := this.2
  rw [List.any_eq_false] at h3 ⊢
  intro x hx
  refine h3 x ?_
  obtain ⟨j, hj, rfl⟩ := List.mem_iff_getElem.1 hx
  rw [List.length_take, List.length_drop] at hj
  rw [List.getElem_take, List.getElem_drop]
  exact List.mem_iff_getElem.2 ⟨k + j, by rw [List.length_take]; omega, by rw [List.getElem_take]⟩
theorem rmay_snoc {l : List (List Int)} {a b c : Int} (h : rmay l = true) (h1 : rmay [[a, b, c]] = true) (hn : l.any (sameW a b c) = false) (h16 : l.length ≠ 16) : rmay (l ++ [[a, b, c]]) = true := by
  obtain ⟨p1, p2⟩ := rmay_iff.1 h
  obtain ⟨_, q2⟩ := rmay_iff.1 h1
  refine rmay_iff.2 ⟨by simp; omega, fun i hi => ?_⟩
  by_cases hl : i < l.length
  · have := p2 i hl
    unfold badR at this ⊢
    have e : (l ++ [[a, b, c]]).getD i [] = l.getD i [] := by simp [List.getD_eq_getElem?_getD, List.getElem?_append_left hl]
    rw [e, List.take_append_of_le_length (by omega)]
    exact this
  · have hi' : i = l.length := by simp at hi; omega
    subst hi'
    have := q2 0 (by simp)
    unfold badR at this ⊢
    have e : (l ++ [[a, b, c]]).getD l.length [] = [a, b, c] := by simp [List.getD_eq_getElem?_getD]
    have e2 : (l ++ [[a, b, c]]).take l.length = l := by simp
    rw [e, e2]
    simp only [List.getD_cons_zero, List.take_zero, List.any_nil, Bool.or_false, List.getD_cons_succ] at this ⊢
    rw [this, hn]; rfl
theorem gets_take {a b c d l : List (List Int)} (h : gets a b c d l = true) (k : Nat) : gets a b c d (l.take k) = true := by
  unfold gets at h ⊢
  simp only [Bool.and_eq_true] at h ⊢
  exact ⟨h.1, rmay_take h.2.1 k, List.all_eq_true.2 fun x hx => List.all_eq_true.1 h.2.2 x (List.mem_of_mem_take hx)⟩
theorem gets_drop {a b c d l : List (List Int)} (h : gets a b c d l = true) (k : Nat) : gets a b c d (l.drop k) = true := by
  unfold gets at h ⊢
  simp only [Bool.and_eq_true] at h ⊢
  exact ⟨h.1, rmay_drop h.2.1 k, List.all_eq_true.2 fun x hx => List.all_eq_true.1 h.2.2 x (List.mem_of_mem_drop hx)⟩
theorem any_split (l : List (List Int)) (p : List Int → Bool) (k : Nat) : l.any p = ((l.take k).any p || (l.drop k).any p) := by
  rw [← List.any_append, List.take_append_drop]
theorem gd_parts {a b c d l : List (List Int)} {id : Int} (h : gdOk a b c d l id = true) (k : Nat) : gdOk a b c d (l.take k) id = true ∧ gdOk a b c d (l.drop k) id = true ∧ gd a b c d l id = (gd a b c d (l.take k) id && gd a b c d (l.drop k) id) := by
  have h0 := h
  unfold gdOk at h
  simp only [Bool.and_eq_true] at h
  have h1 : gdOk a b c d (l.take k) id = true := by unfold gdOk; rw [gets_take h.1, h.2]; rfl
  have h2 : gdOk a b c d (l.drop k) id = true := by unfold gdOk; rw [gets_drop h.1, h.2]; rfl
  refine ⟨h1, h2, ?_⟩
  unfold gd
  rw [h0, h1, h2, any_split l _ k, Bool.not_or]; rfl
theorem cv_parts {a b c d l : List (List Int)} (h : gets a b c d l = true) (k : Nat) : gets a b c d (l.take k) = true ∧ gets a b c d (l.drop k) = true ∧ cv a b c d l = (cv a b c d (l.take k) || cv a b c d (l.drop k)) := by
  refine ⟨gets_take h k, gets_drop h k, ?_⟩
  unfold cv
  rw [h, gets_take h k, gets_drop h k, any_split l _ k]; rfl
theorem badG_of {a b c d : List (List Int)} {id : Int} {r : List Int} (h : badC a b c d r = true) : badG a b c d id r = true := by
  unfold badC at h; unfold badG; rw [h]; rfl
theorem gd_cv {a b c d l : List (List Int)} {id : Int} (h : gd a b c d l id = true) : cv a b c d l = false := by
  unfold gd at h; unfold cv
  simp only [Bool.and_eq_true, Bool.not_eq_true'] at h
  have : l.any (badC a b c d) = false := by
    rw [List.any_eq_false]
    intro x hx hb
    exact List.any_eq_false.1 h.2 x hx (badG_of hb)
  rw [this, Bool.and_false]
theorem gd_snoc {a b c d l : List (List Int)} {id x y z : Int} (h : gdOk a b c d l id = true) (hw : wOk l x y z = true) (h1 : gdOk a b c d [[x, y, z]] id = true) (hn : l.any (sameW x y z) = false) :
    gdOk a b c d (wl l x y z) id = true ∧ gd a b c d (wl l x y z) id = (gd a b c d l id && gd a b c d [[x, y, z]] id) := by
  have e : wl l x y z = l ++ [[x, y, z]] := by unfold wl; rw [hw, hn]; rfl
  have h0 := h
  have h10 := h1
  unfold gdOk gets at h h1
  unfold wOk at hw
  rw [hn] at hw
  simp only [Bool.and_eq_true, Bool.false_or, Bool.not_eq_true', decide_eq_false_iff_not] at h h1 hw
  have h2 : gdOk a b c d (l ++ [[x, y, z]]) id = true := by
    unfold gdOk gets
    rw [h.1.1, rmay_snoc hw.1 hw.2.1 hn hw.2.2, h.2, List.all_append, h.1.2.2, h1.1.2.2]; rfl
  rw [e]
  refine ⟨h2, ?_⟩
  unfold gd
  rw [h0, h10, h2, List.any_append, Bool.not_or]; rfl
theorem wl_len {l : List (List Int)} {a b c : Int} (hw : wOk l a b c = true) : ((wl l a b c).length = l.length ∧ l.any (sameW a b c) = true) ∨ ((wl l a b c).length = l.length + 1 ∧ l.any (sameW a b c) = false) := by
  unfold wl; rw [hw, cond_true]
  cases l.any (sameW a b c) with
  | true => exact .inl ⟨rfl, rfl⟩
  | false => exact .inr ⟨by simp, rfl⟩
theorem mod_place (ct : Int) (n : Nat) (hn : n ≤ 5864062014635) : ∃ k : Nat, k ≤ n ∧ IntKind.wrap .i64 (Int.tmod (IntKind.wrap .u64 ct) (IntKind.wrap .u64 (IntKind.wrap .i64 ((n : Int) + 1)))) = (k : Int) ∧ decide (IntKind.wrap .u64 (IntKind.wrap .i64 ((n : Int) + 1)) = 0) = false := by
  have h1 : IntKind.wrap .i64 ((n : Int) + 1) = (n : Int) + 1 := wrap_id (by omega) (by omega)
  have h2 : IntKind.wrap .u64 ((n : Int) + 1) = (n : Int) + 1 := by
    simp only [IntKind.wrap, IntKind.bits, IntKind.signed]
    simp; omega
  rw [h1, h2]
  have h3 : 0 ≤ IntKind.wrap .u64 ct := by
    simp only [IntKind.wrap, IntKind.bits, IntKind.signed]
    simp; omega
  generalize IntKind.wrap .u64 ct = x at *
  have h4 : Int.tmod x ((n : Int) + 1) = x % ((n : Int) + 1) := Int.tmod_eq_emod_of_nonneg h3
  have h5 : 0 ≤ x % ((n : Int) + 1) := Int.emod_nonneg _ (by omega)
  have h6 : x % ((n : Int) + 1) < (n : Int) + 1 := Int.emod_lt_of_pos _ (by omega)
  refine ⟨(x % ((n : Int) + 1)).toNat, by omega, ?_, decide_eq_false (by omega)⟩
  rw [h4, wrap_id (by omega) (by omega)]
  omega
end Vm
