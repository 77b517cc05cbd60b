/- What the functions of this text do, told by an interpreter that is proved right (YtdfehiebnempaaaVA to VD). My own work. -/
import Derived.Test.YtdfehiebnempaaaVRdP
import Derived.Test.YtdfehiebnempaaaVRdF
namespace Vm
open Go Go.Proofs
set_option linter.unusedSimpArgs false
set_option linter.unusedVariables false
set_option maxRecDepth 100000
/-! ### ReadsetTurned -/
def updB (f : Nat → Bool) (j : Nat) (v : Bool) : Nat → Bool := fun n => match Nat.beq n j with | true => v | false => f n
def cnt (f : Nat → Bool) : Nat := (f 0).toNat + (f 1).toNat + (f 2).toNat + (f 3).toNat + (f 4).toNat + (f 5).toNat + (f 6).toNat + (f 7).toNat + (f 8).toNat + (f 9).toNat + (f 10).toNat + (f 11).toNat + (f 12).toNat + (f 13).toNat + (f 14).toNat + (f 15).toNat
structure InvJ (l : List (List Int)) (f : Nat → Bool) : Prop where
  may : rmay l = true
  has : ∀ j, j < 16 → l.any (sameW ((j / 4 : Nat) : Int) ((j % 4 : Nat) : Int) 0) = f j
  len : l.length = cnt f
  wid : wid 3 l
theorem sameW3 (a b c d : Int) : sameW a b c = sameW a b d := rfl
theorem tl1 (b : Bool) : b.toNat ≤ 1 := by cases b <;> decide
theorem cnt_lt {f : Nat → Bool} {k : Nat} (hk : k < 16) (h : f k = false) : cnt f ≤ 15 ∧ cnt (updB f k true) = cnt f + 1 := by
  have e : k = 0 ∨ k = 1 ∨ k = 2 ∨ k = 3 ∨ k = 4 ∨ k = 5 ∨ k = 6 ∨ k = 7 ∨ k = 8 ∨ k = 9 ∨ k = 10 ∨ k = 11 ∨ k = 12 ∨ k = 13 ∨ k = 14 ∨ k = 15 := by omega
  have t := fun j => tl1 (f j)
  have t0 := t 0; have t1 := t 1; have t2 := t 2; have t3 := t 3; have t4 := t 4; have t5 := t 5; have t6 := t 6; have t7 := t 7; have t8 := t 8; have t9 := t 9; have t10 := t 10; have t11 := t 11; have t12 := t 12; have t13 := t 13; have t14 := t 14; have t15 := t 15;
  unfold cnt
  have hz : (f k).toNat = 0 := by rw [h]; rfl
  rcases e with rfl | rfl | rfl | rfl | rfl | rfl | rfl | rfl | rfl | rfl | rfl | rfl | rfl | rfl | rfl | rfl
  · refine ⟨by omega, ?_⟩
    show 1 + (f 1).toNat + (f 2).toNat + (f 3).toNat + (f 4).toNat + (f 5).toNat + (f 6).toNat + (f 7).toNat + (f 8).toNat + (f 9).toNat + (f 10).toNat + (f 11).toNat + (f 12).toNat + (f 13).toNat + (f 14).toNat + (f 15).toNat = (f 0).toNat + (f 1).toNat + (f 2).toNat + (f 3).toNat + (f 4).toNat + (f 5).toNat + (f 6).toNat + (f 7).toNat + (f 8).toNat + (f 9).toNat + (f 10).toNat + (f 11).toNat + (f 12).toNat + (f 13).toNat + (f 14).toNat + (f 15).toNat + 1
    omega
  · refine ⟨by omega, ?_⟩
    show (f 0).toNat + 1 + (f 2).toNat + (f 3).toNat + (f 4).toNat + (f 5).toNat + (f 6).toNat + (f 7).toNat + (f 8).toNat + (f 9).toNat + (f 10).toNat + (f 11).toNat + (f 12).toNat + (f 13).toNat + (f 14).toNat + (f 15).toNat = (f 0).toNat + (f 1).toNat + (f 2).toNat + (f 3).toNat + (f 4).toNat + (f 5).toNat + (f 6).toNat + (f 7).toNat + (f 8).toNat + (f 9).toNat + (f 10).toNat + (f 11).toNat + (f 12).toNat + (f 13).toNat + (f 14).toNat + (f 15).toNat + 1
    omega
  · refine ⟨by omega, ?_⟩
    show (f 0).toNat + (f 1).toNat + 1 + (f 3).toNat + (f 4).toNat + (f 5).toNat + (f 6).toNat + (f 7).toNat + (f 8).toNat + (f 9).toNat + (f 10).toNat + (f 11).toNat + (f 12).toNat + (f 13).toNat + (f 14).toNat + (f 15).toNat = (f 0).toNat + (f 1).toNat + (f 2).toNat + (f 3).toNat + (f 4).toNat + (f 5).toNat + (f 6).toNat + (f 7).toNat + (f 8).toNat + (f 9).toNat + (f 10).toNat + (f 11).toNat + (f 12).toNat + (f 13).toNat + (f 14).toNat + (f 15).toNat + 1
    omega
  · refine ⟨by omega, ?_⟩
    show (f 0).toNat + (f 1).toNat + (f 2).toNat + 1 + (f 4).toNat + (f 5).toNat + (f 6).toNat + (f 7).toNat + (f 8).toNat + (f 9).toNat + (f 10).toNat + (f 11).toNat + (f 12).toNat + (f 13).toNat + (f 14).toNat + (f 15).toNat = (f 0).toNat + (f 1).toNat + (f 2).toNat + (f 3).toNat + (f 4).toNat + (f 5).toNat + (f 6).toNat + (f 7).toNat + (f 8).toNat + (f 9).toNat + (f 10).toNat + (f 11).toNat + (f 12).toNat + (f 13).toNat + (f 14).toNat + (f 15).toNat + 1
    omega
  · refine ⟨by omega, ?_⟩
    show (f 0).toNat + (f 1).toNat + (f 2).toNat + (f 3).toNat + 1 + (f 5).toNat + (f 6).toNat + (f 7).toNat + (f 8).toNat + (f 9).toNat + (f 10).toNat + (f 11).toNat + (f 12).toNat + (f 13).toNat + (f 14).toNat + (f 15).toNat = (f 0).toNat + (f 1).toNat + (f 2).toNat + (f 3).toNat + (f 4).toNat + (f 5).toNat + (f 6).toNat + (f 7).toNat + (f 8).toNat + (f 9).toNat + (f 10).toNat + (f 11).toNat + (f 12).toNat + (f 13).toNat + (f 14).toNat + (f 15).toNat + 1
    omega
  · refine ⟨by omega, ?_⟩
    show (f 0).toNat + (f 1).toNat + (f 2).toNat + (f 3).toNat + (f 4).toNat + 1 + (f 6).toNat + (f 7).toNat + (f 8).toNat + (f 9).toNat + (f 10).toNat + (f 11).toNat + (f 12).toNat + (f 13).toNat + (f 14).toNat + (f 15).toNat = (f 0).toNat + (f 1).toNat + (f 2).toNat + (f 3).toNat + (f 4).toNat + (f 5).toNat + (f 6).toNat + (f 7).toNat + (f 8).toNat + (f 9).toNat + (f 10).toNat + (f 11).toNat + (f 12).toNat + (f 13).toNat + (f 14).toNat + (f 15).toNat + 1
    omega
  · refine ⟨by omega, ?_⟩
    show (f 0).toNat + (f 1).toNat + (f 2).toNat + (f 3).toNat + (f 4).toNat + (f 5).toNat + 1 + (f 7).toNat + (f 8).toNat + (f 9).toNat + (f 10).toNat + (f 11).toNat + (f 12).toNat + (f 13).toNat + (f 14).toNat + (f 15).toNat = (f 0).toNat + (f 1).toNat + (f 2).toNat + (f 3).toNat + (f 4).toNat + (f 5).toNat + (f 6).toNat + (f 7).toNat + (f 8).toNat + (f 9).toNat + (f 10).toNat + (f 11).toNat + (f 12).toNat + (f 13).toNat + (f 14).toNat + (f 15).toNat + 1
    omega
  · refine ⟨by omega, ?_⟩
    show (f 0).toNat + (f 1).toNat + (f 2).toNat + (f 3).toNat + (f 4).toNat + (f 5).toNat + (f 6).toNat + 1 + (f 8).toNat + (f 9).toNat + (f 10).toNat + (f 11).toNat + (f 12).toNat + (f 13).toNat + (f 14).toNat + (f 15).toNat = (f 0).toNat + (f 1).toNat + (f 2).toNat + (f 3).toNat + (f 4).toNat + (f 5).toNat + (f 6).toNat + (f 7).toNat + (f 8).toNat + (f 9).toNat + (f 10).toNat + (f 11).toNat + (f 12).toNat + (f 13).toNat + (f 14).toNat + (f 15).toNat + 1
    omega
  · refine ⟨by omega, ?_⟩
    show (f 0).toNat + (f 1).toNat + (f 2).toNat + (f 3).toNat + (f 4).toNat + (f 5).toNat + (f 6).toNat + (f 7).toNat + 1 + (f 9).toNat + (f 10).toNat + (f 11).toNat + (f 12).toNat + (f 13).toNat + (f 14).toNat + (f 15).toNat = (f 0).toNat + (f 1).toNat + (f 2).toNat + (f 3).toNat + (f 4).toNat + (f 5).toNat + (f 6).toNat + (f 7).toNat + (f 8).toNat + (f 9).toNat + (f 10).toNat + (f 11).toNat + (f 12).toNat + (f 13).toNat + (f 14).toNat + (f 15).toNat + 1
    omega
  · refine ⟨by omega, ?_⟩
    show (f 0).toNat + (f 1).toNat + (f 2).toNat + (f 3).toNat + (f 4).toNat + (f 5).toNat + (f 6).toNat + (f 7).toNat + (f 8).toNat + 1 + (f 10).toNat + (f 11).toNat + (f 12).toNat + (f 13).toNat + (f 14).toNat + (f 15).toNat = (f 0).toNat + (f 1).toNat + (f 2).toNat + (f 3).toNat + (f 4).toNat + (f 5).toNat + (f 6).toNat + (f 7).toNat + (f 8).toNat + (f 9).toNat + (f 10).toNat + (f 11).toNat + (f 12).toNat + (f 13).toNat + (f 14).toNat + (f 15).toNat + 1
    omega
  · refine ⟨by omega, ?_⟩
    show (f 0).toNat + (f 1).toNat + (f 2).toNat + (f 3).toNat + (f 4).toNat + (f 5).toNat + (f 6).toNat + (f 7).toNat + (f 8).toNat + (f 9).toNat + 1 + (f 11).toNat + (f 12).toNat + (f 13).toNat + (f 14).toNat + (f 15).toNat = (f 0).toNat + (f 1).toNat + (f 2).toNat + (f 3).toNat + (f 4).toNat + (f 5).toNat + (f 6).toNat + (f 7).toNat + (f 8).toNat + (f 9).toNat + (f 10).toNat + (f 11).toNat + (f 12).toNat + (f 13).toNat + (f 14).toNat + (f 15).toNat + 1
    omega
  · refine ⟨by omega, ?_⟩
    show (f 0).toNat + (f 1).toNat + (f 2).toNat + (f 3).toNat + (f 4).toNat + (f 5).toNat + (f 6).toNat + (f 7).toNat + (f 8).toNat + (f 9).toNat + (f 10).toNat + 1 + (f 12).toNat + (f 13).toNat + (f 14).toNat + (f 15).toNat = (f 0).toNat + (f 1).toNat + (f 2).toNat + (f 3).toNat + (f 4).toNat + (f 5).toNat + (f 6).toNat + (f 7).toNat + (f 8).toNat + (f 9).toNat + (f 10).toNat + (f 11).toNat + (f 12).toNat + (f 13).toNat + (f 14).toNat + (f 15).toNat + 1
    omega
  · refine ⟨by omega, ?_⟩
    show (f 0).toNat + (f 1).toNat + (f 2).toNat + (f 3).toNat + (f 4).toNat + (f 5).toNat + (f 6).toNat + (f 7).toNat + (f 8).toNat + (f 9).toNat + (f 10).toNat + (f 11).toNat + 1 + (f 13).toNat + (f 14).toNat + (f 15).toNat = (f 0).toNat + (f 1).toNat + (f 2).toNat + (f 3).toNat + (f 4).toNat + (f 5).toNat + (f 6).toNat + (f 7).toNat + (f 8).toNat + (f 9).toNat + (f 10).toNat + (f 11).toNat + (f 12).toNat + (f 13).toNat + (f 14).toNat + (f 15).toNat + 1
    omega
  · refine ⟨by omega, ?_⟩
    show (f 0).toNat + (f 1).toNat + (f 2).toNat + (f 3).toNat + (f 4).toNat + (f 5).toNat + (f 6).toNat + (f 7).toNat + (f 8).toNat + (f 9).toNat + (f 10).toNat + (f 11).toNat + (f 12).toNat + 1 + (f 14).toNat + (f 15).toNat = (f 0).toNat + (f 1).toNat + (f 2).toNat + (f 3).toNat + (f 4).toNat + (f 5).toNat + (f 6).toNat + (f 7).toNat + (f 8).toNat + (f 9).toNat + (f 10).toNat + (f 11).toNat + (f 12).toNat + (f 13).toNat + (f 14).toNat + (f 15).toNat + 1
    omega
  · refine ⟨by omega, ?_⟩
    show (f 0).toNat + (f 1).toNat + (f 2).toNat + (f 3).toNat + (f 4).toNat + (f 5).toNat + (f 6).toNat + (f 7).toNat + (f 8).toNat + (f 9).toNat + (f 10).toNat + (f 11).toNat + (f 12).toNat + (f 13).toNat + 1 + (f 15).toNat = (f 0).toNat + (f 1).toNat + (f 2).toNat + (f 3).toNat + (f 4).toNat + (f 5).toNat + (f 6).toNat + (f 7).toNat + (f 8).toNat + (f 9).toNat + (f 10).toNat + (f 11).toNat + (f 12).toNat + (f 13).toNat + (f 14).toNat + (f 15).toNat + 1
    omega
  · refine ⟨by omega, ?_⟩
    show (f 0).toNat + (f 1).toNat + (f 2).toNat + (f 3).toNat + (f 4).toNat + (f 5).toNat + (f 6).toNat + (f 7).toNat + (f 8).toNat + (f 9).toNat + (f 10).toNat + (f 11).toNat + (f 12).toNat + (f 13).toNat + (f 14).toNat + 1 = (f 0).toNat + (f 1).toNat + (f 2).toNat + (f 3).toNat + (f 4).toNat + (f 5).toNat + (f 6).toNat + (f 7).toNat + (f 8).toNat + (f 9).toNat + (f 10).toNat + (f 11).toNat + (f 12).toNat + (f 13).toNat + (f 14).toNat + (f 15).toNat + 1
    omega
theorem updB_same {f : Nat → Bool} {k : Nat} (h : f k = true) : updB f k true = f := by
  funext n
  unfold updB
  cases e : Nat.beq n k with
  | true => have := beq_true e; subst this; exact h.symm
  | false => rfl
/-- One more read keeps it so. -/
theorem InvJ.step {l : List (List Int)} {f : Nat → Bool} (h : InvJ l f) {k : Nat} (hk : k < 16) {v : Int} (hv : clk v = true) : wOk l ((k / 4 : Nat) : Int) ((k % 4 : Nat) : Int) v = true ∧ InvJ (wl l ((k / 4 : Nat) : Int) ((k % 4 : Nat) : Int) v) (updB f k true) ∧
    (f k = true → wl l ((k / 4 : Nat) : Int) ((k % 4 : Nat) : Int) v = l) ∧ (f k = false → wl l ((k / 4 : Nat) : Int) ((k % 4 : Nat) : Int) v = l ++ [[((k / 4 : Nat) : Int), ((k % 4 : Nat) : Int), v]]) := by
  have h1 : rmay [[((k / 4 : Nat) : Int), ((k % 4 : Nat) : Int), v]] = true := by
    have a1 : lab ((k / 4 : Nat) : Int) = true := by unfold lab upto; simp; omega
    have a2 : ix4 ((k % 4 : Nat) : Int) = true := by unfold ix4 upto; simp; omega
    generalize ((k / 4 : Nat) : Int) = a at *
    generalize ((k % 4 : Nat) : Int) = b at *
    simp [rmay, badR, ok1, a1, a2, hv]
  have hh : l.any (sameW ((k / 4 : Nat) : Int) ((k % 4 : Nat) : Int) v) = f k := by rw [sameW3 _ _ v 0]; exact h.has k hk
  cases hf : f k with
  | true =>
    rw [hf] at hh
    have hw : wOk l ((k / 4 : Nat) : Int) ((k % 4 : Nat) : Int) v = true := by unfold wOk; rw [h.may, h1, hh]; rfl
    have e : wl l ((k / 4 : Nat) : Int) ((k % 4 : Nat) : Int) v = l := by unfold wl; rw [hw, hh]; rfl
    refine ⟨hw, by rw [e, updB_same hf]; exact h, fun _ => e, fun q => by cases q⟩
  | false =>
    rw [hf] at hh
    obtain ⟨c1, c2⟩ := cnt_lt hk hf
    have hn : l.length ≠ 16 := by have := h.len; omega
    have hw : wOk l ((k / 4 : Nat) : Int) ((k % 4 : Nat) : Int) v = true := by unfold wOk; rw [h.may, h1, hh]; simp [hn]
    have e : wl l ((k / 4 : Nat) : Int) ((k % 4 : Nat) : Int) v = l ++ [[((k / 4 : Nat) : Int), ((k % 4 : Nat) : Int), v]] := by unfold wl; rw [hw, hh]; rfl
    refine ⟨hw, ?_, fun q => (by cases q), fun _ => e⟩
    rw [e]
    refine ⟨rmay_snoc h.may h1 hh hn, fun j hj => ?_, by rw [List.length_append, c2, h.len]; rfl, wid_snoc h.wid _ _ _⟩
    rw [List.any_append, h.has j hj]
    unfold updB
    cases ej : Nat.beq j k with
    | true => have := beq_true ej; subst this; simp [sameW]
    | false =>
      have hne := beq_false ej
      simp only [List.any_cons, List.any_nil, Bool.or_false, sameW, List.getD_cons_zero, List.getD_cons_succ]
      have : (bif ((k / 4 : Nat) : Int) == ((j / 4 : Nat) : Int) then ((k % 4 : Nat) : Int) == ((j % 4 : Nat) : Int) else false) = false := by
        by_cases q : k / 4 = j / 4
        · have q2 : ¬ k % 4 = j % 4 := by omega
          simp [q]; omega
        · have : (((k / 4 : Nat) : Int) == ((j / 4 : Nat) : Int)) = false := by simp; omega
          rw [this]; rfl
      rw [this, Bool.or_false]
theorem tkm (l : List (List Int)) : List.take l.length (mZ l) = mZ l := List.take_of_length_le (by rw [mZ_len]; exact Nat.le_refl _)
def stT (R : List (List D)) (sp : List (List D)) (at' : Int) (id : Int) (lk : Bool) (n : Nat) (m : Nat) (i : Int) (W : List (List D)) (b0 : Bool) (b1 : Bool) (b2 : Bool) (b3 : Bool) (b4 : Bool) (b5 : Bool) (b6 : Bool) (b7 : Bool) (b8 : Bool) (b9 : Bool) (b10 : Bool) (b11 : Bool) (b12 : Bool) (b13 : Bool) (b14 : Bool) (b15 : Bool) : X := ⟨mkT 167 [(0, aS 1 R sp), (1, ai at'), (2, ai id), (3, ab lk), (9, .c (.rp 10 0 4 0 0)), (11, .c (.rs 12 0 3 0 n m)), (12, .c (.rp 13 0 16 0 0)), (13, ai i)], [(10, .bx 0 4 [.rs 34000 0 3 0 4 4, .rs 34001 0 3 0 4 4, .rs 34002 0 3 0 4 4, .rs 34003 0 3 0 4 4]), (34000, .sl 0 3 [[vI 1, vI 0, vI 0], [vI 2, vI 0, vI 0], [vI 3, vI 0, vI 0], [vI 4, vI 0, vI 0]]), (34001, .sl 0 3 [[vI 5, vI 0, vI 0], [vI 6, vI 0, vI 0], [vI 7, vI 0, vI 0], [vI 8, vI 0, vI 0]]), (34002, .sl 0 3 [[vI 1, vI 0, vI 0], [vI 2, vI 0, vI 0], [vI 3, vI 0, vI 0], [vI 4, vI 0, vI 0]]), (34003, .sl 0 3 [[vI 5, vI 0, vI 0], [vI 6, vI 0, vI 0], [vI 7, vI 0, vI 0], [vI 8, vI 0, vI 0]]), (12, .sl 0 3 W), (13, .bx 0 16 [.d (.v (.bool b0)), .d (.v (.bool b1)), .d (.v (.bool b2)), .d (.v (.bool b3)), .d (.v (.bool b4)), .d (.v (.bool b5)), .d (.v (.bool b6)), .d (.v (.bool b7)), .d (.v (.bool b8)), .d (.v (.bool b9)), .d (.v (.bool b10)), .d (.v (.bool b11)), .d (.v (.bool b12)), .d (.v (.bool b13)), .d (.v (.bool b14)), .d (.v (.bool b15))])], []⟩
def v_stT (R : List (List D)) (sp : List (List D)) (at' : Int) (id : Int) (lk : Bool) : Vw := fun y K => aS' y 11 fun n m => wI y 13 fun i => wL y 12 fun W => wR y 13 fun r => wC r fun c'1 r => cB c'1 fun b0 => wC r fun c'2 r => cB c'2 fun b1 => wC r fun c'3 r => cB c'3 fun b2 => wC r fun c'4 r => cB c'4 fun b3 => wC r fun c'5 r => cB c'5 fun b4 => wC r fun c'6 r => cB c'6 fun b5 => wC r fun c'7 r => cB c'7 fun b6 => wC r fun c'8 r => cB c'8 fun b7 => wC r fun c'9 r => cB c'9 fun b8 => wC r fun c'10 r => cB c'10 fun b9 => wC r fun c'11 r => cB c'11 fun b10 => wC r fun c'12 r => cB c'12 fun b11 => wC r fun c'13 r => cB c'13 fun b12 => wC r fun c'14 r => cB c'14 fun b13 => wC r fun c'15 r => cB c'15 fun b14 => wC r fun c'16 r => cB c'16 fun b15 => K (stT R sp at' id lk n m i W b0 b1 b2 b3 b4 b5 b6 b7 b8 b9 b10 b11 b12 b13 b14 b15)
theorem v_stT_ok (R : List (List D)) (sp : List (List D)) (at' : Int) (id : Int) (lk : Bool) : VwOK (v_stT R sp at' id lk) := fun y K h => by
  unfold v_stT at h
  obtain ⟨n, m, h⟩ := aS'_ex h
  obtain ⟨i, h⟩ := wI_ex h
  obtain ⟨W, h⟩ := wL_ex h
  obtain ⟨r, h⟩ := wR_ex h
  obtain ⟨c'1, r, h⟩ := wC_ex h
  obtain ⟨b0, h⟩ := cB_ex h
  obtain ⟨c'2, r, h⟩ := wC_ex h
  obtain ⟨b1, h⟩ := cB_ex h
  obtain ⟨c'3, r, h⟩ := wC_ex h
  obtain ⟨b2, h⟩ := cB_ex h
  obtain ⟨c'4, r, h⟩ := wC_ex h
  obtain ⟨b3, h⟩ := cB_ex h
  obtain ⟨c'5, r, h⟩ := wC_ex h
  obtain ⟨b4, h⟩ := cB_ex h
  obtain ⟨c'6, r, h⟩ := wC_ex h
  obtain ⟨b5, h⟩ := cB_ex h
  obtain ⟨c'7, r, h⟩ := wC_ex h
  obtain ⟨b6, h⟩ := cB_ex h
  obtain ⟨c'8, r, h⟩ := wC_ex h
  obtain ⟨b7, h⟩ := cB_ex h
  obtain ⟨c'9, r, h⟩ := wC_ex h
  obtain ⟨b8, h⟩ := cB_ex h
  obtain ⟨c'10, r, h⟩ := wC_ex h
  obtain ⟨b9, h⟩ := cB_ex h
  obtain ⟨c'11, r, h⟩ := wC_ex h
  obtain ⟨b10, h⟩ := cB_ex h
  obtain ⟨c'12, r, h⟩ := wC_ex h
  obtain ⟨b11, h⟩ := cB_ex h
  obtain ⟨c'13, r, h⟩ := wC_ex h
  obtain ⟨b12, h⟩ := cB_ex h
  obtain ⟨c'14, r, h⟩ := wC_ex h
  obtain ⟨b13, h⟩ := cB_ex h
  obtain ⟨c'15, r, h⟩ := wC_ex h
  obtain ⟨b14, h⟩ := cB_ex h
  obtain ⟨c'16, r, h⟩ := wC_ex h
  obtain ⟨b15, h⟩ := cB_ex h
  exact ⟨_, h⟩
def gKm (an : Int → Int → Int) (pk : List (Nat × Int)) (l : List (FuncId × Spec)) (m : List (Nat × LSum)) : Hooks := { hkA an bor l m with pick := fun k => lookN pk k }
theorem gKm_ok (pk : List (Nat × Int)) {l : List (FuncId × Spec)} {m : List (Nat × LSum)} (h : SpecsOK Try.prog l) : CallsOK Try.prog (gKm band pk l m) := ⟨fun _ _ => rfl, fun _ _ => rfl, ⟨fun _ => rfl, fun _ => rfl, fun _ => rfl⟩, fun f ds Q hq => lookS_ok h f ds Q hq⟩
def askKm (an : Int → Int → Int) (pk : List (Nat × Int)) (l : List (FuncId × Spec)) (m : List (Nat × LSum)) (fn : Func) (args : List DV) (K : DV → Prop) : Prop := evp Try.prog (gKm an pk l m) 200 (bodyOf fn) (finX Try.prog fn K) (entryX fn.ntmps args)
def sfT (R : List (List D)) (sp : List (List D)) (at' : Int) (id : Int) (lk : Bool) (l : List (List Int)) (f : Nat → Bool) (i : Int) : X := stT R sp at' id lk l.length l.length i (mZ l) (f 0) (f 1) (f 2) (f 3) (f 4) (f 5) (f 6) (f 7) (f 8) (f 9) (f 10) (f 11) (f 12) (f 13) (f 14) (f 15)
def gdR (a b c d l : List (List Int)) (id : Int) (g : Bool) (e : Int) : Prop := g = gd a b c d l id ∧ e = pe9 (gdOk a b c d l id)
def cvR (a b c d l : List (List Int)) (g : Bool) (e : Int) : Prop := g = cv a b c d l ∧ e = pe9 (gets a b c d l)
def sGdC : Spec := fun ds Q => match ds with | [.agg [.s 0 3 R0 p0, .s 0 3 R1 p1, .s 0 3 R2 p2, .s 0 3 R3 p3], .c (.s 0 3 R sp), .c (.v (.int .i64 id))] => cond (okA R0 R1 R2 R3) (cond (okZ 3 R) (∀ (g : Bool) (e : Int), gdR (toZ R0) (toZ R1) (toZ R2) (toZ R3) (toZ R) id g e → Q (.tup [B g, I e])) False) False | _ => False
def sCvC : Spec := fun ds Q => match ds with | [.agg [.s 0 3 R0 p0, .s 0 3 R1 p1, .s 0 3 R2 p2, .s 0 3 R3 p3], .c (.s 0 3 R sp)] => cond (okA R0 R1 R2 R3) (cond (okZ 3 R) (∀ (g : Bool) (e : Int), cvR (toZ R0) (toZ R1) (toZ R2) (toZ R3) (toZ R) g e → Q (.tup [B g, I e])) False) False | _ => False
theorem oGoC : SpecOK Try.prog 35 sGdC := spec_le oGo fun ds Q h => by
  unfold sGdC at h; split at h
  · obtain ⟨h1, h⟩ := cond_P h
    obtain ⟨h2, h⟩ := cond_P h
    unfold sGd
    simp only [h1, h2, Bool.and_self, cond_true]
    exact h _ _ ⟨rfl, rfl⟩
  · exact h.elim
theorem oChC : SpecOK Try.prog 37 sCvC := spec_le oCh fun ds Q h => by
  unfold sCvC at h; split at h
  · obtain ⟨h1, h⟩ := cond_P h
    obtain ⟨h2, h⟩ := cond_P h
    unfold sCv
    simp only [h1, h2, Bool.and_self, cond_true]
    exact h _ _ ⟨rfl, rfl⟩
  · exact h.elim
def valT (n : Nat) : Int := match n with | 0 => 1 | 1 => 2 | 2 => 3 | 3 => 4 | 4 => 5 | 5 => 6 | 6 => 7 | 7 => 8 | 8 => 1 | 9 => 2 | 10 => 3 | 11 => 4 | 12 => 5 | 13 => 6 | 14 => 7 | _ => 8
def wdT (k : Nat) (x y : Int) (n : Nat) : List Int := [valT n, match Nat.beq n k with | true => x | false => 0, match Nat.beq n k with | true => y | false => 0]
def rowT (k : Nat) (x y : Int) (L : Nat) : List (List Int) := [wdT k x y L, wdT k x y (L + 1), wdT k x y (L + 2), wdT k x y (L + 3)]
def pl (j : Nat) : List Int := [((j / 4 : Nat) : Int), ((j % 4 : Nat) : Int), 0]
theorem j16 {j : Nat} (h : j < 16) : j = 0 ∨ j = 1 ∨ j = 2 ∨ j = 3 ∨ j = 4 ∨ j = 5 ∨ j = 6 ∨ j = 7 ∨ j = 8 ∨ j = 9 ∨ j = 10 ∨ j = 11 ∨ j = 12 ∨ j = 13 ∨ j = 14 ∨ j = 15 := by omega
theorem wdv_pl {k : Nat} {x y : Int} {j : Nat} (hj : j < 16) : wdv (rowT k x y 0) (rowT k x y 4) (rowT k x y 8) (rowT k x y 12) (pl j) = wdT k x y j := by
  rcases j16 hj with rfl | rfl | rfl | rfl | rfl | rfl | rfl | rfl | rfl | rfl | rfl | rfl | rfl | rfl | rfl | rfl <;> rfl
theorem thv_pl {k : Nat} {x y : Int} {j : Nat} (hj : j < 16) : thv (rowT k x y 0) (rowT k x y 4) (rowT k x y 8) (rowT k x y 12) (pl j) = true := by
  rcases j16 hj with rfl | rfl | rfl | rfl | rfl | rfl | rfl | rfl | rfl | rfl | rfl | rfl | rfl | rfl | rfl | rfl <;> rfl
theorem wmay_T {k : Nat} {x y : Int} (hx : clk x = true) (hy : upto y 0 255 = true) (n : Nat) (hn : n < 16) : wmayR (wdT k x y n) = true := by
  have c0 : clk 0 = true := rfl
  have u0 : upto 0 0 255 = true := rfl
  have hv : val8 (valT n) = true := by rcases j16 hn with rfl | rfl | rfl | rfl | rfl | rfl | rfl | rfl | rfl | rfl | rfl | rfl | rfl | rfl | rfl | rfl <;> rfl
  unfold wmayR wdT wmay
  simp only [List.getD_cons_zero, List.getD_cons_succ, hv]
  cases Nat.beq n k <;> simp [hx, hy, c0, u0]
theorem amay_T {k : Nat} {x y : Int} (hx : clk x = true) (hy : upto y 0 255 = true) : amay (rowT k x y 0) (rowT k x y 4) (rowT k x y 8) (rowT k x y 12) = true := by
  have hh := fun n hn => wmay_T (k := k) hx hy n hn
  have hr : ∀ L, L + 3 < 16 → rowMay (rowT k x y L) = true := fun L hL => by
    simp [rowMay, badW, rowT, hh L (by omega), hh (L + 1) (by omega), hh (L + 2) (by omega), hh (L + 3) (by omega)]
  simp [amay, hr 0 (by omega), hr 4 (by omega), hr 8 (by omega), hr 12 (by omega)]
structure InvT (l : List (List Int)) (f : Nat → Bool) : Prop where
  inv : InvJ l f
  pls : ∀ r ∈ l, ∃ j, j < 16 ∧ r = pl j
theorem same_pl {k j : Nat} (hk : k < 16) (hj : j < 16) : sameW ((k / 4 : Nat) : Int) ((k % 4 : Nat) : Int) 0 (pl j) = Nat.beq j k := by
  unfold sameW pl
  simp only [List.getD_cons_zero, List.getD_cons_succ]
  cases ej : Nat.beq j k with
  | true => have := beq_true ej; subst this; simp
  | false =>
    have hne := beq_false ej
    by_cases q : j / 4 = k / 4
    · have q2 : ¬ j % 4 = k % 4 := by omega
      simp [q]; omega
    · have : (((j / 4 : Nat) : Int) == ((k / 4 : Nat) : Int)) = false := by simp; omega
      rw [this]; rfl
theorem any_T {l : List (List Int)} {f : Nat → Bool} (h : InvT l f) {k : Nat} (hk : k < 16) {p : List Int → Bool} {q : Bool} (hp : ∀ j, j < 16 → p (pl j) = (Nat.beq j k && q)) : l.any p = (f k && q) := by
  rw [← h.inv.has k hk]
  cases hA : l.any p with
  | true =>
    obtain ⟨r, hr, hpr⟩ := List.any_eq_true.1 hA
    obtain ⟨j, hj, rfl⟩ := h.pls r hr
    rw [hp j hj, Bool.and_eq_true] at hpr
    have : l.any (sameW ((k / 4 : Nat) : Int) ((k % 4 : Nat) : Int) 0) = true := List.any_eq_true.2 ⟨_, hr, by rw [same_pl hk hj]; exact hpr.1⟩
    rw [this, hpr.2]; rfl
  | false =>
    cases hq : q with
    | false => simp
    | true =>
      have : l.any (sameW ((k / 4 : Nat) : Int) ((k % 4 : Nat) : Int) 0) = false := by
        rw [List.any_eq_false]
        intro r hr hs
        obtain ⟨j, hj, rfl⟩ := h.pls r hr
        rw [same_pl hk hj] at hs
        refine List.any_eq_false.1 hA _ hr ?_
        rw [hp j hj, hs, hq]; rfl
      rw [this]; rfl
theorem gets_T {l : List (List Int)} {f : Nat → Bool} (h : InvT l f) {k : Nat} {x y : Int} (hx : clk x = true) (hy : upto y 0 255 = true) : gets (rowT k x y 0) (rowT k x y 4) (rowT k x y 8) (rowT k x y 12) l = true := by
  unfold gets
  rw [amay_T hx hy, h.inv.may]
  simp only [Bool.true_and]
  refine List.all_eq_true.2 fun r hr => ?_
  obtain ⟨j, hj, rfl⟩ := h.pls r hr
  exact thv_pl hj
theorem gd_T {l : List (List Int)} {f : Nat → Bool} (h : InvT l f) {k : Nat} (hk : k < 16) {x y id : Int} (hx : clk x = true) (hy : upto y 0 255 = true) (hid : idm id = true) :
    gdOk (rowT k x y 0) (rowT k x y 4) (rowT k x y 8) (rowT k x y 12) l id = true ∧ gd (rowT k x y 0) (rowT k x y 4) (rowT k x y 8) (rowT k x y 12) l id = !(f k && (x != 0 || (y != 0 && y != IntKind.wrap .i64 (id + 1)))) := by
  have h1 : gdOk (rowT k x y 0) (rowT k x y 4) (rowT k x y 8) (rowT k x y 12) l id = true := by unfold gdOk; rw [gets_T h hx hy, hid]; rfl
  refine ⟨h1, ?_⟩
  unfold gd
  rw [h1, Bool.true_and, any_T h hk (q := (x != 0 || (y != 0 && y != IntKind.wrap .i64 (id + 1)))) fun j hj => ?_]
  unfold badG
  rw [wdv_pl hj]
  unfold wdT pl
  simp only [List.getD_cons_zero, List.getD_cons_succ]
  cases Nat.beq j k with
  | false => rfl
  | true => cases x != 0 <;> cases y != 0 <;> rfl
theorem cv_T {l : List (List Int)} {f : Nat → Bool} (h : InvT l f) {k : Nat} (hk : k < 16) {x y : Int} (hx : clk x = true) (hy : upto y 0 255 = true) :
    cv (rowT k x y 0) (rowT k x y 4) (rowT k x y 8) (rowT k x y 12) l = (f k && x != 0) := by
  unfold cv
  rw [gets_T h hx hy, Bool.true_and]
  refine any_T h hk (q := x != 0) fun j hj => ?_
  unfold badC
  rw [wdv_pl hj]
  unfold wdT pl
  simp only [List.getD_cons_zero, List.getD_cons_succ]
  cases Nat.beq j k <;> rfl
theorem InvT.step {l : List (List Int)} {f : Nat → Bool} (h : InvT l f) {k : Nat} (hk : k < 16) (hf : f k = false) : InvT (l ++ [pl k]) (updB f k true) := by
  obtain ⟨_, s2, _, s4⟩ := h.inv.step hk (v := 0) rfl
  rw [s4 hf] at s2
  refine ⟨s2, fun r hr => ?_⟩
  rcases List.mem_append.1 hr with hr | hr
  · exact h.pls r hr
  · rw [List.mem_singleton.1 hr]; exact ⟨k, hk, rfl⟩
theorem rT_0 (an : Int → Int → Int) (R : List (List D)) (sp : List (List D)) (at' : Int) (id : Int) (lk : Bool) (n : Nat) (m : Nat) (i : Int) (W : List (List D)) (b0 : Bool) (b1 : Bool) (b2 : Bool) (b3 : Bool) (b4 : Bool) (b5 : Bool) (b6 : Bool) (b7 : Bool) (b8 : Bool) (b9 : Bool) (b10 : Bool) (b11 : Bool) (b12 : Bool) (b13 : Bool) (b14 : Bool) (b15 : Bool) (N : X → Prop) (E : Exit → X → Prop) : (roundV Try.prog (gKm an [(51, 0), (60, 0)] [] []) Try.f12 0 [] [0, 1, 2, 3, 9, 11, 12, 13] [10, 34000, 34001, 34002, 34003, 12, 13] (v_stT R sp at' id lk) (fun _ => v_stT R sp at' id lk) N E (stT R sp at' id lk n m i W b0 b1 b2 b3 b4 b5 b6 b7 b8 b9 b10 b11 b12 b13 b14 b15)) = (bif decide (i < @Nat.cast Int _ (List.length R)) then bif decide (i < 8) then bif decide (0 ≤ i) && decide (i < @Nat.cast Int _ (List.length R)) then bif isJ [IntKind.i64] (List.drop (0) (List.getD R (Int.toNat i) [])) then an (hdJ (List.drop (0) (List.getD R (Int.toNat i) []))) (15) = 0 ∧ bif !b0 then an (0) (3) = 0 ∧ bif decide (n ≤ List.length W) && (decide ((n + 1) * 24 ≤ 140737488355328) && decide (n + 1 ≤ 9223372036854775807)) then stT R sp at' id lk (n + 1) (n + 1) (IntKind.wrap IntKind.i64 (i + 1)) (List.take n W ++ [[D.v (Value.int IntKind.i64 (0)), D.v (Value.int IntKind.i64 (0)), D.v (Value.int IntKind.i64 (0))]]) true b1 b2 b3 b4 b5 b6 b7 b8 b9 b10 b11 b12 b13 b14 b15 = stT R sp at' id lk (n + 1) (n + 1) (IntKind.wrap IntKind.i64 (i + 1)) (List.take n W ++ [[D.v (Value.int IntKind.i64 (0)), D.v (Value.int IntKind.i64 (0)), D.v (Value.int IntKind.i64 (0))]]) true b1 b2 b3 b4 b5 b6 b7 b8 b9 b10 b11 b12 b13 b14 b15 ∧ N (stT R sp at' id lk (n + 1) (n + 1) (IntKind.wrap IntKind.i64 (i + 1)) (List.take n W ++ [[D.v (Value.int IntKind.i64 (0)), D.v (Value.int IntKind.i64 (0)), D.v (Value.int IntKind.i64 (0))]]) true b1 b2 b3 b4 b5 b6 b7 b8 b9 b10 b11 b12 b13 b14 b15) else False else stT R sp at' id lk n m (IntKind.wrap IntKind.i64 (i + 1)) W true b1 b2 b3 b4 b5 b6 b7 b8 b9 b10 b11 b12 b13 b14 b15 = stT R sp at' id lk n m (IntKind.wrap IntKind.i64 (i + 1)) W true b1 b2 b3 b4 b5 b6 b7 b8 b9 b10 b11 b12 b13 b14 b15 ∧ N (stT R sp at' id lk n m (IntKind.wrap IntKind.i64 (i + 1)) W true b1 b2 b3 b4 b5 b6 b7 b8 b9 b10 b11 b12 b13 b14 b15) else False else False else stT R sp at' id lk n m i W b0 b1 b2 b3 b4 b5 b6 b7 b8 b9 b10 b11 b12 b13 b14 b15 = stT R sp at' id lk n m i W b0 b1 b2 b3 b4 b5 b6 b7 b8 b9 b10 b11 b12 b13 b14 b15 ∧ E (Exit.exit (0)) (stT R sp at' id lk n m i W b0 b1 b2 b3 b4 b5 b6 b7 b8 b9 b10 b11 b12 b13 b14 b15) else stT R sp at' id lk n m i W b0 b1 b2 b3 b4 b5 b6 b7 b8 b9 b10 b11 b12 b13 b14 b15 = stT R sp at' id lk n m i W b0 b1 b2 b3 b4 b5 b6 b7 b8 b9 b10 b11 b12 b13 b14 b15 ∧ E (Exit.exit (0)) (stT R sp at' id lk n m i W b0 b1 b2 b3 b4 b5 b6 b7 b8 b9 b10 b11 b12 b13 b14 b15)) := by kernel_rfl
theorem qT_0 {R sp : List (List D)} {at' id : Int} {lk : Bool} {l : List (List Int)} {f : Nat → Bool} {i : Nat} (hR : okZ 1 R = true) (hv : InvT l f) (hi : i < R.length) (hi2 : i < 8) (hk : band (hdJ (R.getD i [])) 15 = 0) {N : X → Prop} {E : Exit → X → Prop}
    (h : ∀ l' f', InvT l' f' → N (sfT R sp at' id lk l' f' ((i + 1 : Nat) : Int))) : roundV Try.prog (gKm band [(51, 0), (60, 0)] [] []) Try.f12 0 [] [0, 1, 2, 3, 9, 11, 12, 13] [10, 34000, 34001, 34002, 34003, 12, 13] (v_stT R sp at' id lk) (fun _ => v_stT R sp at' id lk) N E (sfT R sp at' id lk l f i) := by
  unfold sfT
  rw [rT_0]
  obtain ⟨el, hw, hn⟩ := okZ_spec hR
  have hll : i < (toZ R).length := by rw [toZ_len]; exact hi
  have hj1 : isJ [IntKind.i64] (R.getD i []) = true := by
    rw [el]; exact isJ_mZ (j := 0) (n := 1) hw hll (by omega)
  have wi : IntKind.wrap .i64 ((i : Int) + 1) = ((i + 1 : Nat) : Int) := wrap_nat (n := 1) (by omega)
  have hi3 : (i : Int) < 8 := by omega
  have hk3 : band 0 3 = 0 := by rw [mask2]; rfl
  have h16 := rmay16 hv.inv.may
  have m1 : decide ((l.length + 1) * 24 ≤ 140737488355328) = true := decide_eq_true (by omega)
  have m2 : decide (l.length + 1 ≤ 9223372036854775807) = true := decide_eq_true (by omega)
  cases hb : f 0 with
  | true =>
    have hh := h l f hv
    unfold sfT at hh
    rw [hb] at hh
    simp only [Int.ofNat_lt, hi, hi3, decide_true, cond_true, Int.natCast_nonneg, Bool.and_self, Int.toNat_natCast, List.drop_zero, hj1, hk, wi, cond_false, Bool.not_true, true_and]
    exact hh
  | false =>
    have hh := h _ _ (hv.step (k := 0) (by omega) hb)
    unfold sfT at hh
    have q1 : List.take l.length (mZ l) ++ [[D.v (.int .i64 0), D.v (.int .i64 0), D.v (.int .i64 0)]] = mZ (l ++ [pl 0]) := by
      rw [tkm, ← mZ_append]; rfl
    have q2 : (l ++ [pl 0]).length = l.length + 1 := by simp
    rw [q2] at hh
    simp only [Int.ofNat_lt, hi, hi3, decide_true, cond_true, Int.natCast_nonneg, Bool.and_self, Int.toNat_natCast, List.drop_zero, hj1, hk, hk3, wi, Nat.le_refl, mZ_len, cond_false, Bool.not_false, true_and, q1, m1, m2]
    exact hh
theorem xT_0 {R sp : List (List D)} {at' id : Int} {lk : Bool} {Q : Exit → X → Prop} {l : List (List Int)} {f : Nat → Bool} {i : Nat} (hR : okZ 1 R = true) (hv : InvT l f) (h1 : i < R.length) (h2 : i < 8) (hk : band (hdJ (R.getD i [])) 15 = 0) :
    ∃ H, CallsOK Try.prog H ∧ LoopsOK Try.prog H (bodyL Try.f12 0) ∧ roundV Try.prog H Try.f12 0 [] [0, 1, 2, 3, 9, 11, 12, 13] [10, 34000, 34001, 34002, 34003, 12, 13] (v_stT R sp at' id lk) (fun _ => v_stT R sp at' id lk) (fun y => ∃ p' : (List (List Int) × (Nat → Bool)) × Nat, R.length - p'.2 < R.length - i ∧ (InvT p'.1.1 p'.1.2 ∧ p'.2 ≤ R.length) ∧ y = sfT R sp at' id lk p'.1.1 p'.1.2 p'.2) Q (sfT R sp at' id lk l f i) := by
  refine ⟨_, gKm_ok [(51, 0), (60, 0)] .nil, loops_nil rfl, qT_0 hR hv h1 h2 hk (fun l' f' hv' => ⟨((l', f'), i + 1), ?_, ⟨hv', h1⟩, rfl⟩)⟩
  show R.length - (i + 1) < R.length - i
  omega
theorem rT_1 (an : Int → Int → Int) (R : List (List D)) (sp : List (List D)) (at' : Int) (id : Int) (lk : Bool) (n : Nat) (m : Nat) (i : Int) (W : List (List D)) (b0 : Bool) (b1 : Bool) (b2 : Bool) (b3 : Bool) (b4 : Bool) (b5 : Bool) (b6 : Bool) (b7 : Bool) (b8 : Bool) (b9 : Bool) (b10 : Bool) (b11 : Bool) (b12 : Bool) (b13 : Bool) (b14 : Bool) (b15 : Bool) (N : X → Prop) (E : Exit → X → Prop) : (roundV Try.prog (gKm an [(51, 1), (60, 1)] [] []) Try.f12 0 [] [0, 1, 2, 3, 9, 11, 12, 13] [10, 34000, 34001, 34002, 34003, 12, 13] (v_stT R sp at' id lk) (fun _ => v_stT R sp at' id lk) N E (stT R sp at' id lk n m i W b0 b1 b2 b3 b4 b5 b6 b7 b8 b9 b10 b11 b12 b13 b14 b15)) = (bif decide (i < @Nat.cast Int _ (List.length R)) then bif decide (i < 8) then bif decide (0 ≤ i) && decide (i < @Nat.cast Int _ (List.length R)) then bif isJ [IntKind.i64] (List.drop (0) (List.getD R (Int.toNat i) [])) then an (hdJ (List.drop (0) (List.getD R (Int.toNat i) []))) (15) = 1 ∧ bif !b1 then an (1) (3) = 1 ∧ bif decide (n ≤ List.length W) && (decide ((n + 1) * 24 ≤ 140737488355328) && decide (n + 1 ≤ 9223372036854775807)) then stT R sp at' id lk (n + 1) (n + 1) (IntKind.wrap IntKind.i64 (i + 1)) (List.take n W ++ [[D.v (Value.int IntKind.i64 (0)), D.v (Value.int IntKind.i64 (1)), D.v (Value.int IntKind.i64 (0))]]) b0 true b2 b3 b4 b5 b6 b7 b8 b9 b10 b11 b12 b13 b14 b15 = stT R sp at' id lk (n + 1) (n + 1) (IntKind.wrap IntKind.i64 (i + 1)) (List.take n W ++ [[D.v (Value.int IntKind.i64 (0)), D.v (Value.int IntKind.i64 (1)), D.v (Value.int IntKind.i64 (0))]]) b0 true b2 b3 b4 b5 b6 b7 b8 b9 b10 b11 b12 b13 b14 b15 ∧ N (stT R sp at' id lk (n + 1) (n + 1) (IntKind.wrap IntKind.i64 (i + 1)) (List.take n W ++ [[D.v (Value.int IntKind.i64 (0)), D.v (Value.int IntKind.i64 (1)), D.v (Value.int IntKind.i64 (0))]]) b0 true b2 b3 b4 b5 b6 b7 b8 b9 b10 b11 b12 b13 b14 b15) else False else stT R sp at' id lk n m (IntKind.wrap IntKind.i64 (i + 1)) W b0 true b2 b3 b4 b5 b6 b7 b8 b9 b10 b11 b12 b13 b14 b15 = stT R sp at' id lk n m (IntKind.wrap IntKind.i64 (i + 1)) W b0 true b2 b3 b4 b5 b6 b7 b8 b9 b10 b11 b12 b13 b14 b15 ∧ N (stT R sp at' id lk n m (IntKind.wrap IntKind.i64 (i + 1)) W b0 true b2 b3 b4 b5 b6 b7 b8 b9 b10 b11 b12 b13 b14 b15) else False else False else stT R sp at' id lk n m i W b0 b1 b2 b3 b4 b5 b6 b7 b8 b9 b10 b11 b12 b13 b14 b15 = stT R sp at' id lk n m i W b0 b1 b2 b3 b4 b5 b6 b7 b8 b9 b10 b11 b12 b13 b14 b15 ∧ E (Exit.exit (0)) (stT R sp at' id lk n m i W b0 b1 b2 b3 b4 b5 b6 b7 b8 b9 b10 b11 b12 b13 b14 b15) else stT R sp at' id lk n m i W b0 b1 b2 b3 b4 b5 b6 b7 b8 b9 b10 b11 b12 b13 b14 b15 = stT R sp at' id lk n m i W b0 b1 b2 b3 b4 b5 b6 b7 b8 b9 b10 b11 b12 b13 b14 b15 ∧ E (Exit.exit (0)) (stT R sp at' id lk n m i W b0 b1 b2 b3 b4 b5 b6 b7 b8 b9 b10 b11 b12 b13 b14 b15)) := by kernel_rfl
theorem qT_1 {R sp : List (List D)} {at' id : Int} {lk : Bool} {l : List (List Int)} {f : Nat → Bool} {i : Nat} (hR : okZ 1 R = true) (hv : InvT l f) (hi : i < R.length) (hi2 : i < 8) (hk : band (hdJ (R.getD i [])) 15 = 1) {N : X → Prop} {E : Exit → X → Prop}
    (h : ∀ l' f', InvT l' f' → N (sfT R sp at' id lk l' f' ((i + 1 : Nat) : Int))) : roundV Try.prog (gKm band [(51, 1), (60, 1)] [] []) Try.f12 0 [] [0, 1, 2, 3, 9, 11, 12, 13] [10, 34000, 34001, 34002, 34003, 12, 13] (v_stT R sp at' id lk) (fun _ => v_stT R sp at' id lk) N E (sfT R sp at' id lk l f i) := by
  unfold sfT
  rw [rT_1]
  obtain ⟨el, hw, hn⟩ := okZ_spec hR
  have hll : i < (toZ R).length := by rw [toZ_len]; exact hi
  have hj1 : isJ [IntKind.i64] (R.getD i []) = true := by
    rw [el]; exact isJ_mZ (j := 0) (n := 1) hw hll (by omega)
  have wi : IntKind.wrap .i64 ((i : Int) + 1) = ((i + 1 : Nat) : Int) := wrap_nat (n := 1) (by omega)
  have hi3 : (i : Int) < 8 := by omega
  have hk3 : band 1 3 = 1 := by rw [mask2]; rfl
  have h16 := rmay16 hv.inv.may
  have m1 : decide ((l.length + 1) * 24 ≤ 140737488355328) = true := decide_eq_true (by omega)
  have m2 : decide (l.length + 1 ≤ 9223372036854775807) = true := decide_eq_true (by omega)
  cases hb : f 1 with
  | true =>
    have hh := h l f hv
    unfold sfT at hh
    rw [hb] at hh
    simp only [Int.ofNat_lt, hi, hi3, decide_true, cond_true, Int.natCast_nonneg, Bool.and_self, Int.toNat_natCast, List.drop_zero, hj1, hk, wi, cond_false, Bool.not_true, true_and]
    exact hh
  | false =>
    have hh := h _ _ (hv.step (k := 1) (by omega) hb)
    unfold sfT at hh
    have q1 : List.take l.length (mZ l) ++ [[D.v (.int .i64 0), D.v (.int .i64 1), D.v (.int .i64 0)]] = mZ (l ++ [pl 1]) := by
      rw [tkm, ← mZ_append]; rfl
    have q2 : (l ++ [pl 1]).length = l.length + 1 := by simp
    rw [q2] at hh
    simp only [Int.ofNat_lt, hi, hi3, decide_true, cond_true, Int.natCast_nonneg, Bool.and_self, Int.toNat_natCast, List.drop_zero, hj1, hk, hk3, wi, Nat.le_refl, mZ_len, cond_false, Bool.not_false, true_and, q1, m1, m2]
    exact hh
theorem xT_1 {R sp : List (List D)} {at' id : Int} {lk : Bool} {Q : Exit → X → Prop} {l : List (List Int)} {f : Nat → Bool} {i : Nat} (hR : okZ 1 R = true) (hv : InvT l f) (h1 : i < R.length) (h2 : i < 8) (hk : band (hdJ (R.getD i [])) 15 = 1) :
    ∃ H, CallsOK Try.prog H ∧ LoopsOK Try.prog H (bodyL Try.f12 0) ∧ roundV Try.prog H Try.f12 0 [] [0, 1, 2, 3, 9, 11, 12, 13] [10, 34000, 34001, 34002, 34003, 12, 13] (v_stT R sp at' id lk) (fun _ => v_stT R sp at' id lk) (fun y => ∃ p' : (List (List Int) × (Nat → Bool)) × Nat, R.length - p'.2 < R.length - i ∧ (InvT p'.1.1 p'.1.2 ∧ p'.2 ≤ R.length) ∧ y = sfT R sp at' id lk p'.1.1 p'.1.2 p'.2) Q (sfT R sp at' id lk l f i) := by
  refine ⟨_, gKm_ok [(51, 1), (60, 1)] .nil, loops_nil rfl, qT_1 hR hv h1 h2 hk (fun l' f' hv' => ⟨((l', f'), i + 1), ?_, ⟨hv', h1⟩, rfl⟩)⟩
  show R.length - (i + 1) < R.length - i
  omega
theorem rT_2 (an : Int → Int → Int) (R : List (List D)) (sp : List (List D)) (at' : Int) (id : Int) (lk : Bool) (n : Nat) (m : Nat) (i : Int) (W : List (List D)) (b0 : Bool) (b1 : Bool) (b2 : Bool) (b3 : Bool) (b4 : Bool) (b5 : Bool) (b6 : Bool) (b7 : Bool) (b8 : Bool) (b9 : Bool) (b10 : Bool) (b11 : Bool) (b12 : Bool) (b13 : Bool) (b14 : Bool) (b15 : Bool) (N : X → Prop) (E : Exit → X → Prop) : (roundV Try.prog (gKm an [(51, 2), (60, 2)] [] []) Try.f12 0 [] [0, 1, 2, 3, 9, 11, 12, 13] [10, 34000, 34001, 34002, 34003, 12, 13] (v_stT R sp at' id lk) (fun _ => v_stT R sp at' id lk) N E (stT R sp at' id lk n m i W b0 b1 b2 b3 b4 b5 b6 b7 b8 b9 b10 b11 b12 b13 b14 b15)) = (bif decide (i < @Nat.cast Int _ (List.length R)) then bif decide (i < 8) then bif decide (0 ≤ i) && decide (i < @Nat.cast Int _ (List.length R)) then bif isJ [IntKind.i64] (List.drop (0) (List.getD R (Int.toNat i) [])) then an (hdJ (List.drop (0) (List.getD R (Int.toNat i) []))) (15) = 2 ∧ bif !b2 then an (2) (3) = 2 ∧ bif decide (n ≤ List.length W) && (decide ((n + 1) * 24 ≤ 140737488355328) && decide (n + 1 ≤ 9223372036854775807)) then stT R sp at' id lk (n + 1) (n + 1) (IntKind.wrap IntKind.i64 (i + 1)) (List.take n W ++ [[D.v (Value.int IntKind.i64 (0)), D.v (Value.int IntKind.i64 (2)), D.v (Value.int IntKind.i64 (0))]]) b0 b1 true b3 b4 b5 b6 b7 b8 b9 b10 b11 b12 b13 b14 b15 = stT R sp at' id lk (n + 1) (n + 1) (IntKind.wrap IntKind.i64 (i + 1)) (List.take n W ++ [[D.v (Value.int IntKind.i64 (0)), D.v (Value.int IntKind.i64 (2)), D.v (Value.int IntKind.i64 (0))]]) b0 b1 true b3 b4 b5 b6 b7 b8 b9 b10 b11 b12 b13 b14 b15 ∧ N (stT R sp at' id lk (n + 1) (n + 1) (IntKind.wrap IntKind.i64 (i + 1)) (List.take n W ++ [[D.v (Value.int IntKind.i64 (0)), D.v (Value.int IntKind.i64 (2)), D.v (Value.int IntKind.i64 (0))]]) b0 b1 true b3 b4 b5 b6 b7 b8 b9 b10 b11 b12 b13 b14 b15) else False else stT R sp at' id lk n m (IntKind.wrap IntKind.i64 (i + 1)) W b0 b1 true b3 b4 b5 b6 b7 b8 b9 b10 b11 b12 b13 b14 b15 = stT R sp at' id lk n m (IntKind.wrap IntKind.i64 (i + 1)) W b0 b1 true b3 b4 b5 b6 b7 b8 b9 b10 b11 b12 b13 b14 b15 ∧ N (stT R sp at' id lk n m (IntKind.wrap IntKind.i64 (i + 1)) W b0 b1 true b3 b4 b5 b6 b7 b8 b9 b10 b11 b12 b13 b14 b15) else False else False else stT R sp at' id lk n m i W b0 b1 b2 b3 b4 b5 b6 b7 b8 b9 b10 b11 b12 b13 b14 b15 = stT R sp at' id lk n m i W b0 b1 b2 b3 b4 b5 b6 b7 b8 b9 b10 b11 b12 b13 b14 b15 ∧ E (Exit.exit (0)) (stT R sp at' id lk n m i W b0 b1 b2 b3 b4 b5 b6 b7 b8 b9 b10 b11 b12 b13 b14 b15) else stT R sp at' id lk n m i W b0 b1 b2 b3 b4 b5 b6 b7 b8 b9 b10 b11 b12 b13 b14 b15 = stT R sp at' id lk n m i W b0 b1 b2 b3 b4 b5 b6 b7 b8 b9 b10 b11 b12 b13 b14 b15 ∧ E (Exit.exit (0)) (stT R sp at' id lk n m i W b0 b1 b2 b3 b4 b5 b6 b7 b8 b9 b10 b11 b12 b13 b14 b15)) := by kernel_rfl
theorem qT_2 {R sp : List (List D)} {at' id : Int} {lk : Bool} {l : List (List Int)} {f : Nat → Bool} {i : Nat} (hR : okZ 1 R = true) (hv : InvT l f) (hi : i < R.length) (hi2 : i < 8) (hk : band (hdJ (R.getD i [])) 15 = 2) {N : X → Prop} {E : Exit → X → Prop}
    (h : ∀ l' f', InvT l' f' → N (sfT R sp at' id lk l' f' ((i + 1 : Nat) : Int))) : roundV Try.prog (gKm band [(51, 2), (60, 2)] [] []) Try.f12 0 [] [0, 1, 2, 3, 9, 11, 12, 13] [10, 34000, 34001, 34002, 34003, 12, 13] (v_stT R sp at' id lk) (fun _ => v_stT R sp at' id lk) N E (sfT R sp at' id lk l f i) := by
  unfold sfT
  rw [rT_2]
  obtain ⟨el, hw, hn⟩ := okZ_spec hR
  have hll : i < (toZ R).length := by rw [toZ_len]; exact hi
  have hj1 : isJ [IntKind.i64] (R.getD i []) = true := by
    rw [el]; exact isJ_mZ (j := 0) (n := 1) hw hll (by omega)
  have wi : IntKind.wrap .i64 ((i : Int) + 1) = ((i + 1 : Nat) : Int) := wrap_nat (n := 1) (by omega)
  have hi3 : (i : Int) < 8 := by omega
  have hk3 : band 2 3 = 2 := by rw [mask2]; rfl
  have h16 := rmay16 hv.inv.may
  have m1 : decide ((l.length + 1) * 24 ≤ 140737488355328) = true := decide_eq_true (by omega)
  have m2 : decide (l.length + 1 ≤ 9223372036854775807) = true := decide_eq_true (by omega)
  cases hb : f 2 with
  | true =>
    have hh := h l f hv
    unfold sfT at hh
    rw [hb] at hh
    simp only [Int.ofNat_lt, hi, hi3, decide_true, cond_true, Int.natCast_nonneg, Bool.and_self, Int.toNat_natCast, List.drop_zero, hj1, hk, wi, cond_false, Bool.not_true, true_and]
    exact hh
  | false =>
    have hh := h _ _ (hv.step (k := 2) (by omega) hb)
    unfold sfT at hh
    have q1 : List.take l.length (mZ l) ++ [[D.v (.int .i64 0), D.v (.int .i64 2), D.v (.int .i64 0)]] = mZ (l ++ [pl 2]) := by
      rw [tkm, ← mZ_append]; rfl
    have q2 : (l ++ [pl 2]).length = l.length + 1 := by simp
    rw [q2] at hh
    simp only [Int.ofNat_lt, hi, hi3, decide_true, cond_true, Int.natCast_nonneg, Bool.and_self, Int.toNat_natCast, List.drop_zero, hj1, hk, hk3, wi, Nat.le_refl, mZ_len, cond_false, Bool.not_false, true_and, q1, m1, m2]
    exact hh
theorem xT_2 {R sp : List (List D)} {at' id : Int} {lk : Bool} {Q : Exit → X → Prop} {l : List (List Int)} {f : Nat → Bool} {i : Nat} (hR : okZ 1 R = true) (hv : InvT l f) (h1 : i < R.length) (h2 : i < 8) (hk : band (hdJ (R.getD i [])) 15 = 2) :
    ∃ H, CallsOK Try.prog H ∧ LoopsOK Try.prog H (bodyL Try.f12 0) ∧ roundV Try.prog H Try.f12 0 [] [0, 1, 2, 3, 9, 11, 12, 13] [10, 34000, 34001, 34002, 34003, 12, 13] (v_stT R sp at' id lk) (fun _ => v_stT R sp at' id lk) (fun y => ∃ p' : (List (List Int) × (Nat → Bool)) × Nat, R.length - p'.2 < R.length - i ∧ (InvT p'.1.1 p'.1.2 ∧ p'.2 ≤ R.length) ∧ y = sfT R sp at' id lk p'.1.1 p'.1.2 p'.2) Q (sfT R sp at' id lk l f i) := by
  refine ⟨_, gKm_ok [(51, 2), (60, 2)] .nil, loops_nil rfl, qT_2 hR hv h1 h2 hk (fun l' f' hv' => ⟨((l', f'), i + 1), ?_, ⟨hv', h1⟩, rfl⟩)⟩
  show R.length - (i + 1) < R.length - i
  omega
theorem rT_3 (an : Int → Int → Int) (R : List (List D)) (sp : List (List D)) (at' : Int) (id : Int) (lk : Bool) (n : Nat) (m : Nat) (i : Int) (W : List (List D)) (b0 : Bool) (b1 : Bool) (b2 : Bool) (b3 : Bool) (b4 : Bool) (b5 : Bool) (b6 : Bool) (b7 : Bool) (b8 : Bool) (b9 : Bool) (b10 : Bool) (b11 : Bool) (b12 : Bool) (b13 : Bool) (b14 : Bool) (b15 : Bool) (N : X → Prop) (E : Exit → X → Prop) : (roundV Try.prog (gKm an [(51, 3), (60, 3)] [] []) Try.f12 0 [] [0, 1, 2, 3, 9, 11, 12, 13] [10, 34000, 34001, 34002, 34003, 12, 13] (v_stT R sp at' id lk) (fun _ => v_stT R sp at' id lk) N E (stT R sp at' id lk n m i W b0 b1 b2 b3 b4 b5 b6 b7 b8 b9 b10 b11 b12 b13 b14 b15)) = (bif decide (i < @Nat.cast Int _ (List.length R)) then bif decide (i < 8) then bif decide (0 ≤ i) && decide (i < @Nat.cast Int _ (List.length R)) then bif isJ [IntKind.i64] (List.drop (0) (List.getD R (Int.toNat i) [])) then an (hdJ (List.drop (0) (List.getD R (Int.toNat i) []))) (15) = 3 ∧ bif !b3 then an (3) (3) = 3 ∧ bif decide (n ≤ List.length W) && (decide ((n + 1) * 24 ≤ 140737488355328) && decide (n + 1 ≤ 9223372036854775807)) then stT R sp at' id lk (n + 1) (n + 1) (IntKind.wrap IntKind.i64 (i + 1)) (List.take n W ++ [[D.v (Value.int IntKind.i64 (0)), D.v (Value.int IntKind.i64 (3)), D.v (Value.int IntKind.i64 (0))]]) b0 b1 b2 true b4 b5 b6 b7 b8 b9 b10 b11 b12 b13 b14 b15 = stT R sp at' id lk (n + 1) (n + 1) (IntKind.wrap IntKind.i64 (i + 1)) (List.take n W ++ [[D.v (Value.int IntKind.i64 (0)), D.v (Value.int IntKind.i64 (3)), D.v (Value.int IntKind.i64 (0))]]) b0 b1 b2 true b4 b5 b6 b7 b8 b9 b10 b11 b12 b13 b14 b15 ∧ N (stT R sp at' id lk (n + 1) (n + 1) (IntKind.wrap IntKind.i64 (i + 1)) (List.take n W ++ [[D.v (Value.int IntKind.i64 (0)), D.v (Value.int IntKind.i64 (3)), D.v (Value.int IntKind.i64 (0))]]) b0 b1 b2 true b4 b5 b6 b7 b8 b9 b10 b11 b12 b13 b14 b15) else False else stT R sp at' id lk n m (IntKind.wrap IntKind.i64 (i + 1)) W b0 b1 b2 true b4 b5 b6 b7 b8 b9 b10 b11 b12 b13 b14 b15 = stT R sp at' id lk n m (IntKind.wrap IntKind.i64 (i + 1)) W b0 b1 b2 true b4 b5 b6 b7 b8 b9 b10 b11 b12 b13 b14 b15 ∧ N (stT R sp at' id lk n m (IntKind.wrap IntKind.i64 (i + 1)) W b0 b1 b2 true b4 b5 b6 b7 b8 b9 b10 b11 b12 b13 b14 b15) else False else False else stT R sp at' id lk n m i W b0 b1 b2 b3 b4 b5 b6 b7 b8 b9 b10 b11 b12 b13 b14 b15 = stT R sp at' id lk n m i W b0 b1 b2 b3 b4 b5 b6 b7 b8 b9 b10 b11 b12 b13 b14 b15 ∧ E (Exit.exit (0)) (stT R sp at' id lk n m i W b0 b1 b2 b3 b4 b5 b6 b7 b8 b9 b10 b11 b12 b13 b14 b15) else stT R sp at' id lk n m i W b0 b1 b2 b3 b4 b5 b6 b7 b8 b9 b10 b11 b12 b13 b14 b15 = stT R sp at' id lk n m i W b0 b1 b2 b3 b4 b5 b6 b7 b8 b9 b10 b11 b12 b13 b14 b15 ∧ E (Exit.exit (0)) (stT R sp at' id lk n m i W b0 b1 b2 b3 b4 b5 b6 b7 b8 b9 b10 b11 b12 b13 b14 b15)) := by kernel_rfl
theorem qT_3 {R sp : List (List D)} {at' id : Int} {lk : Bool} {l : List (List Int)} {f : Nat → Bool} {i : Nat} (hR : okZ 1 R = true) (hv : InvT l f) (hi : i < R.length) (hi2 : i < 8) (hk : band (hdJ (R.getD i [])) 15 = 3) {N : X → Prop} {E : Exit → X → Prop}
    (h : ∀ l' f', InvT l' f' → N (sfT R sp at' id lk l' f' ((i + 1 : Nat) : Int))) : roundV Try.prog (gKm band [(51, 3), (60, 3)] [] []) Try.f12 0 [] [0, 1, 2, 3, 9, 11, 12, 13] [10, 34000, 34001, 34002, 34003, 12, 13] (v_stT R sp at' id lk) (fun _ => v_stT R sp at' id lk) N E (sfT R sp at' id lk l f i) := by
  unfold sfT
  rw [rT_3]
  obtain ⟨el, hw, hn⟩ := okZ_spec hR
  have hll : i < (toZ R).length := by rw [toZ_len]; exact hi
  have hj1 : isJ [IntKind.i64] (R.getD i []) = true := by
    rw [el]; exact isJ_mZ (j := 0) (n := 1) hw hll (by omega)
  have wi : IntKind.wrap .i64 ((i : Int) + 1) = ((i + 1 : Nat) : Int) := wrap_nat (n := 1) (by omega)
  have hi3 : (i : Int) < 8 := by omega
  have hk3 : band 3 3 = 3 := by rw [mask2]; rfl
  have h16 := rmay16 hv.inv.may
  have m1 : decide ((l.length + 1) * 24 ≤ 140737488355328) = true := decide_eq_true (by omega)
  have m2 : decide (l.length + 1 ≤ 9223372036854775807) = true := decide_eq_true (by omega)
  cases hb : f 3 with
  | true =>
    have hh := h l f hv
    unfold sfT at hh
    rw [hb] at hh
    simp only [Int.ofNat_lt, hi, hi3, decide_true, cond_true, Int.natCast_nonneg, Bool.and_self, Int.toNat_natCast, List.drop_zero, hj1, hk, wi, cond_false, Bool.not_true, true_and]
    exact hh
  | false =>
    have hh := h _ _ (hv.step (k := 3) (by omega) hb)
    unfold sfT at hh
    have q1 : List.take l.length (mZ l) ++ [[D.v (.int .i64 0), D.v (.int .i64 3), D.v (.int .i64 0)]] = mZ (l ++ [pl 3]) := by
      rw [tkm, ← mZ_append]; rfl
    have q2 : (l ++ [pl 3]).length = l.length + 1 := by simp
    rw [q2] at hh
    simp only [Int.ofNat_lt, hi, hi3, decide_true, cond_true, Int.natCast_nonneg, Bool.and_self, Int.toNat_natCast, List.drop_zero, hj1, hk, hk3, wi, Nat.le_refl, mZ_len, cond_false, Bool.not_false, true_and, q1, m1, m2]
    exact hh
theorem xT_3 {R sp : List (List D)} {at' id : Int} {lk : Bool} {Q : Exit → X → Prop} {l : List (List Int)} {f : Nat → Bool} {i : Nat} (hR : okZ 1 R = true) (hv : InvT l f) (h1 : i < R.length) (h2 : i < 8) (hk : band (hdJ (R.getD i [])) 15 = 3) :
    ∃ H, CallsOK Try.prog H ∧ LoopsOK Try.prog H (bodyL Try.f12 0) ∧ roundV Try.prog H Try.f12 0 [] [0, 1, 2, 3, 9, 11, 12, 13] [10, 34000, 34001, 34002, 34003, 12, 13] (v_stT R sp at' id lk) (fun _ => v_stT R sp at' id lk) (fun y => ∃ p' : (List (List Int) × (Nat → Bool)) × Nat, R.length - p'.2 < R.length - i ∧ (InvT p'.1.1 p'.1.2 ∧ p'.2 ≤ R.length) ∧ y = sfT R sp at' id lk p'.1.1 p'.1.2 p'.2) Q (sfT R sp at' id lk l f i) := by
  refine ⟨_, gKm_ok [(51, 3), (60, 3)] .nil, loops_nil rfl, qT_3 hR hv h1 h2 hk (fun l' f' hv' => ⟨((l', f'), i + 1), ?_, ⟨hv', h1⟩, rfl⟩)⟩
  show R.length - (i + 1) < R.length - i
  omega
theorem rT_4 (an : Int → Int → Int) (R : List (List D)) (sp : List (List D)) (at' : Int) (id : Int) (lk : Bool) (n : Nat) (m : Nat) (i : Int) (W : List (List D)) (b0 : Bool) (b1 : Bool) (b2 : Bool) (b3 : Bool) (b4 : Bool) (b5 : Bool) (b6 : Bool) (b7 : Bool) (b8 : Bool) (b9 : Bool) (b10 : Bool) (b11 : Bool) (b12 : Bool) (b13 : Bool) (b14 : Bool) (b15 : Bool) (N : X → Prop) (E : Exit → X → Prop) : (roundV Try.prog (gKm an [(51, 4), (60, 0)] [] []) Try.f12 0 [] [0, 1, 2, 3, 9, 11, 12, 13] [10, 34000, 34001, 34002, 34003, 12, 13] (v_stT R sp at' id lk) (fun _ => v_stT R sp at' id lk) N E (stT R sp at' id lk n m i W b0 b1 b2 b3 b4 b5 b6 b7 b8 b9 b10 b11 b12 b13 b14 b15)) = (bif decide (i < @Nat.cast Int _ (List.length R)) then bif decide (i < 8) then bif decide (0 ≤ i) && decide (i < @Nat.cast Int _ (List.length R)) then bif isJ [IntKind.i64] (List.drop (0) (List.getD R (Int.toNat i) [])) then an (hdJ (List.drop (0) (List.getD R (Int.toNat i) []))) (15) = 4 ∧ bif !b4 then an (4) (3) = 0 ∧ bif decide (n ≤ List.length W) && (decide ((n + 1) * 24 ≤ 140737488355328) && decide (n + 1 ≤ 9223372036854775807)) then stT R sp at' id lk (n + 1) (n + 1) (IntKind.wrap IntKind.i64 (i + 1)) (List.take n W ++ [[D.v (Value.int IntKind.i64 (1)), D.v (Value.int IntKind.i64 (0)), D.v (Value.int IntKind.i64 (0))]]) b0 b1 b2 b3 true b5 b6 b7 b8 b9 b10 b11 b12 b13 b14 b15 = stT R sp at' id lk (n + 1) (n + 1) (IntKind.wrap IntKind.i64 (i + 1)) (List.take n W ++ [[D.v (Value.int IntKind.i64 (1)), D.v (Value.int IntKind.i64 (0)), D.v (Value.int IntKind.i64 (0))]]) b0 b1 b2 b3 true b5 b6 b7 b8 b9 b10 b11 b12 b13 b14 b15 ∧ N (stT R sp at' id lk (n + 1) (n + 1) (IntKind.wrap IntKind.i64 (i + 1)) (List.take n W ++ [[D.v (Value.int IntKind.i64 (1)), D.v (Value.int IntKind.i64 (0)), D.v (Value.int IntKind.i64 (0))]]) b0 b1 b2 b3 true b5 b6 b7 b8 b9 b10 b11 b12 b13 b14 b15) else False else stT R sp at' id lk n m (IntKind.wrap IntKind.i64 (i + 1)) W b0 b1 b2 b3 true b5 b6 b7 b8 b9 b10 b11 b12 b13 b14 b15 = stT R sp at' id lk n m (IntKind.wrap IntKind.i64 (i + 1)) W b0 b1 b2 b3 true b5 b6 b7 b8 b9 b10 b11 b12 b13 b14 b15 ∧ N (stT R sp at' id lk n m (IntKind.wrap IntKind.i64 (i + 1)) W b0 b1 b2 b3 true b5 b6 b7 b8 b9 b10 b11 b12 b13 b14 b15) else False else False else stT R sp at' id lk n m i W b0 b1 b2 b3 b4 b5 b6 b7 b8 b9 b10 b11 b12 b13 b14 b15 = stT R sp at' id lk n m i W b0 b1 b2 b3 b4 b5 b6 b7 b8 b9 b10 b11 b12 b13 b14 b15 ∧ E (Exit.exit (0)) (stT R sp at' id lk n m i W b0 b1 b2 b3 b4 b5 b6 b7 b8 b9 b10 b11 b12 b13 b14 b15) else stT R sp at' id lk n m i W b0 b1 b2 b3 b4 b5 b6 b7 b8 b9 b10 b11 b12 b13 b14 b15 = stT R sp at' id lk n m i W b0 b1 b2 b3 b4 b5 b6 b7 b8 b9 b10 b11 b12 b13 b14 b15 ∧ E (Exit.exit (0)) (stT R sp at' id lk n m i W b0 b1 b2 b3 b4 b5 b6 b7 b8 b9 b10 b11 b12 b13 b14 b15)) := by kernel_rfl
theorem qT_4 {R sp : List (List D)} {at' id : Int} {lk : Bool} {l : List (List Int)} {f : Nat → Bool} {i : Nat} (hR : okZ 1 R = true) (hv : InvT l f) (hi : i < R.length) (hi2 : i < 8) (hk : band (hdJ (R.getD i [])) 15 = 4) {N : X → Prop} {E : Exit → X → Prop}
    (h : ∀ l' f', InvT l' f' → N (sfT R sp at' id lk l' f' ((i + 1 : Nat) : Int))) : roundV Try.prog (gKm band [(51, 4), (60, 0)] [] []) Try.f12 0 [] [0, 1, 2, 3, 9, 11, 12, 13] [10, 34000, 34001, 34002, 34003, 12, 13] (v_stT R sp at' id lk) (fun _ => v_stT R sp at' id lk) N E (sfT R sp at' id lk l f i) := by
  unfold sfT
  rw [rT_4]
  obtain ⟨el, hw, hn⟩ := okZ_spec hR
  have hll : i < (toZ R).length := by rw [toZ_len]; exact hi
  have hj1 : isJ [IntKind.i64] (R.getD i []) = true := by
    rw [el]; exact isJ_mZ (j := 0) (n := 1) hw hll (by omega)
  have wi : IntKind.wrap .i64 ((i : Int) + 1) = ((i + 1 : Nat) : Int) := wrap_nat (n := 1) (by omega)
  have hi3 : (i : Int) < 8 := by omega
  have hk3 : band 4 3 = 0 := by rw [mask2]; rfl
  have h16 := rmay16 hv.inv.may
  have m1 : decide ((l.length + 1) * 24 ≤ 140737488355328) = true := decide_eq_true (by omega)
  have m2 : decide (l.length + 1 ≤ 9223372036854775807) = true := decide_eq_true (by omega)
  cases hb : f 4 with
  | true =>
    have hh := h l f hv
    unfold sfT at hh
    rw [hb] at hh
    simp only [Int.ofNat_lt, hi, hi3, decide_true, cond_true, Int.natCast_nonneg, Bool.and_self, Int.toNat_natCast, List.drop_zero, hj1, hk, wi, cond_false, Bool.not_true, true_and]
    exact hh
  | false =>
    have hh := h _ _ (hv.step (k := 4) (by omega) hb)
    unfold sfT at hh
    have q1 : List.take l.length (mZ l) ++ [[D.v (.int .i64 1), D.v (.int .i64 0), D.v (.int .i64 0)]] = mZ (l ++ [pl 4]) := by
      rw [tkm, ← mZ_append]; rfl
    have q2 : (l ++ [pl 4]).length = l.length + 1 := by simp
    rw [q2] at hh
    simp only [Int.ofNat_lt, hi, hi3, decide_true, cond_true, Int.natCast_nonneg, Bool.and_self, Int.toNat_natCast, List.drop_zero, hj1, hk, hk3, wi, Nat.le_refl, mZ_len, cond_false, Bool.not_false, true_and, q1, m1, m2]
    exact hh
theorem xT_4 {R sp : List (List D)} {at' id : Int} {lk : Bool} {Q : Exit → X → Prop} {l : List (List Int)} {f : Nat → Bool} {i : Nat} (hR : okZ 1 R = true) (hv : InvT l f) (h1 : i < R.length) (h2 : i < 8) (hk : band (hdJ (R.getD i [])) 15 = 4) :
    ∃ H, CallsOK Try.prog H ∧ LoopsOK Try.prog H (bodyL Try.f12 0) ∧ roundV Try.prog H Try.f12 0 [] [0, 1, 2, 3, 9, 11, 12, 13] [10, 34000, 34001, 34002, 34003, 12, 13] (v_stT R sp at' id lk) (fun _ => v_stT R sp at' id lk) (fun y => ∃ p' : (List (List Int) × (Nat → Bool)) × Nat, R.length - p'.2 < R.length - i ∧ (InvT p'.1.1 p'.1.2 ∧ p'.2 ≤ R.length) ∧ y = sfT R sp at' id lk p'.1.1 p'.1.2 p'.2) Q (sfT R sp at' id lk l f i) := by
  refine ⟨_, gKm_ok [(51, 4), (60, 0)] .nil, loops_nil rfl, qT_4 hR hv h1 h2 hk (fun l' f' hv' => ⟨((l', f'), i + 1), ?_, ⟨hv', h1⟩, rfl⟩)⟩
  show R.length - (i + 1) < R.length - i
  omega
theorem rT_5 (an : Int → Int → Int) (R : List (List D)) (sp : List (List D)) (at' : Int) (id : Int) (lk : Bool) (n : Nat) (m : Nat) (i : Int) (W : List (List D)) (b0 : Bool) (b1 : Bool) (b2 : Bool) (b3 : Bool) (b4 : Bool) (b5 : Bool) (b6 : Bool) (b7 : Bool) (b8 : Bool) (b9 : Bool) (b10 : Bool) (b11 : Bool) (b12 : Bool) (b13 : Bool) (b14 : Bool) (b15 : Bool) (N : X → Prop) (E : Exit → X → Prop) : (roundV Try.prog (gKm an [(51, 5), (60, 1)] [] []) Try.f12 0 [] [0, 1, 2, 3, 9, 11, 12, 13] [10, 34000, 34001, 34002, 34003, 12, 13] (v_stT R sp at' id lk) (fun _ => v_stT R sp at' id lk) N E (stT R sp at' id lk n m i W b0 b1 b2 b3 b4 b5 b6 b7 b8 b9 b10 b11 b12 b13 b14 b15)) = (bif decide (i < @Nat.cast Int _ (List.length R)) then bif decide (i < 8) then bif decide (0 ≤ i) && decide (i < @Nat.cast Int _ (List.length R)) then bif isJ [IntKind.i64] (List.drop (0) (List.getD R (Int.toNat i) [])) then an (hdJ (List.drop (0) (List.getD R (Int.toNat i) []))) (15) = 5 ∧ bif !b5 then an (5) (3) = 1 ∧ bif decide (n ≤ List.length W) && (decide ((n + 1) * 24 ≤ 140737488355328) && decide (n + 1 ≤ 9223372036854775807)) then stT R sp at' id lk (n + 1) (n + 1) (IntKind.wrap IntKind.i64 (i + 1)) (List.take n W ++ [[D.v (Value.int IntKind.i64 (1)), D.v (Value.int IntKind.i64 (1)), D.v (Value.int IntKind.i64 (0))]]) b0 b1 b2 b3 b4 true b6 b7 b8 b9 b10 b11 b12 b13 b14 b15 = stT R sp at' id lk (n + 1) (n + 1) (IntKind.wrap IntKind.i64 (i + 1)) (List.take n W ++ [[D.v (Value.int IntKind.i64 (1)), D.v (Value.int IntKind.i64 (1)), D.v (Value.int IntKind.i64 (0))]]) b0 b1 b2 b3 b4 true b6 b7 b8 b9 b10 b11 b12 b13 b14 b15 ∧ N (stT R sp at' id lk (n + 1) (n + 1) (IntKind.wrap IntKind.i64 (i + 1)) (List.take n W ++ [[D.v (Value.int IntKind.i64 (1)), D.v (Value.int IntKind.i64 (1)), D.v (Value.int IntKind.i64 (0))]]) b0 b1 b2 b3 b4 true b6 b7 b8 b9 b10 b11 b12 b13 b14 b15) else False else stT R sp at' id lk n m (IntKind.wrap IntKind.i64 (i + 1)) W b0 b1 b2 b3 b4 true b6 b7 b8 b9 b10 b11 b12 b13 b14 b15 = stT R sp at' id lk n m (IntKind.wrap IntKind.i64 (i + 1)) W b0 b1 b2 b3 b4 true b6 b7 b8 b9 b10 b11 b12 b13 b14 b15 ∧ N (stT R sp at' id lk n m (IntKind.wrap IntKind.i64 (i + 1)) W b0 b1 b2 b3 b4 true b6 b7 b8 b9 b10 b11 b12 b13 b14 b15) else False else False else stT R sp at' id lk n m i W b0 b1 b2 b3 b4 b5 b6 b7 b8 b9 b10 b11 b12 b13 b14 b15 = stT R sp at' id lk n m i W b0 b1 b2 b3 b4 b5 b6 b7 b8 b9 b10 b11 b12 b13 b14 b15 ∧ E (Exit.exit (0)) (stT R sp at' id lk n m i W b0 b1 b2 b3 b4 b5 b6 b7 b8 b9 b10 b11 b12 b13 b14 b15) else stT R sp at' id lk n m i W b0 b1 b2 b3 b4 b5 b6 b7 b8 b9 b10 b11 b12 b13 b14 b15 = stT R sp at' id lk n m i W b0 b1 b2 b3 b4 b5 b6 b7 b8 b9 b10 b11 b12 b13 b14 b15 ∧ E (Exit.exit (0)) (stT R sp at' id lk n m i W b0 b1 b2 b3 b4 b5 b6 b7 b8 b9 b10 b11 b12 b13 b14 b15)) := by kernel_rfl
theorem qT_5 {R sp : List (List D)} {at' id : Int} {lk : Bool} {l : List (List Int)} {f : Nat → Bool} {i : Nat} (hR : okZ 1 R = true) (hv : InvT l f) (hi : i < R.length) (hi2 : i < 8) (hk : band (hdJ (R.getD i [])) 15 = 5) {N : X → Prop} {E : Exit → X → Prop}
    (h : ∀ l' f', InvT l' f' → N (sfT R sp at' id lk l' f' ((i + 1 : Nat) : Int))) : roundV Try.prog (gKm band [(51, 5), (60, 1)] [] []) Try.f12 0 [] [0, 1, 2, 3, 9, 11, 12, 13] [10, 34000, 34001, 34002, 34003, 12, 13] (v_stT R sp at' id lk) (fun _ => v_stT R sp at' id lk) N E (sfT R sp at' id lk l f i) := by
  unfold sfT
  rw [rT_5]
  obtain ⟨el, hw, hn⟩ := okZ_spec hR
  have hll : i < (toZ R).length := by rw [toZ_len]; exact hi
  have hj1 : isJ [IntKind.i64] (R.getD i []) = true := by
    rw [el]; exact isJ_mZ (j := 0) (n := 1) hw hll (by omega)
  have wi : IntKind.wrap .i64 ((i : Int) + 1) = ((i + 1 : Nat) : Int) := wrap_nat (n := 1) (by omega)
  have hi3 : (i : Int) < 8 := by omega
  have hk3 : band 5 3 = 1 := by rw [mask2]; rfl
  have h16 := rmay16 hv.inv.may
  have m1 : decide ((l.length + 1) * 24 ≤ 140737488355328) = true := decide_eq_true (by omega)
  have m2 : decide (l.length + 1 ≤ 9223372036854775807) = true := decide_eq_true (by omega)
  cases hb : f 5 with
  | true =>
    have hh := h l f hv
    unfold sfT at hh
    rw [hb] at hh
    simp only [Int.ofNat_lt, hi, hi3, decide_true, cond_true, Int.natCast_nonneg, Bool.and_self, Int.toNat_natCast, List.drop_zero, hj1, hk, wi, cond_false, Bool.not_true, true_and]
    exact hh
  | false =>
    have hh := h _ _ (hv.step (k := 5) (by omega) hb)
    unfold sfT at hh
    have q1 : List.take l.length (mZ l) ++ [[D.v (.int .i64 1), D.v (.int .i64 1), D.v (.int .i64 0)]] = mZ (l ++ [pl 5]) := by
      rw [tkm, ← mZ_append]; rfl
    have q2 : (l ++ [pl 5]).length = l.length + 1 := by simp
    rw [q2] at hh
    simp only [Int.ofNat_lt, hi, hi3, decide_true, cond_true, Int.natCast_nonneg, Bool.and_self, Int.toNat_natCast, List.drop_zero, hj1, hk, hk3, wi, Nat.le_refl, mZ_len, cond_false, Bool.not_false, true_and, q1, m1, m2]
    exact hh
theorem xT_5 {R sp : List (List D)} {at' id : Int} {lk : Bool} {Q : Exit → X → Prop} {l : List (List Int)} {f : Nat → Bool} {i : Nat} (hR : okZ 1 R = true) (hv : InvT l f) (h1 : i < R.length) (h2 : i < 8) (hk : band (hdJ (R.getD i [])) 15 = 5) :
    ∃ H, CallsOK Try.prog H ∧ LoopsOK Try.prog H (bodyL Try.f12 0) ∧ roundV Try.prog H Try.f12 0 [] [0, 1, 2, 3, 9, 11, 12, 13] [10, 34000, 34001, 34002, 34003, 12, 13] (v_stT R sp at' id lk) (fun _ => v_stT R sp at' id lk) (fun y => ∃ p' : (List (List Int) × (Nat → Bool)) × Nat, R.length - p'.2 < R.length - i ∧ (InvT p'.1.1 p'.1.2 ∧ p'.2 ≤ R.length) ∧ y = sfT R sp at' id lk p'.1.1 p'.1.2 p'.2) Q (sfT R sp at' id lk l f i) := by
  refine ⟨_, gKm_ok [(51, 5), (60, 1)] .nil, loops_nil rfl, qT_5 hR hv h1 h2 hk (fun l' f' hv' => ⟨((l', f'), i + 1), ?_, ⟨hv', h1⟩, rfl⟩)⟩
  show R.length - (i + 1) < R.length - i
  omega
theorem rT_6 (an : Int → Int → Int) (R : List (List D)) (sp : List (List D)) (at' : Int) (id : Int) (lk : Bool) (n : Nat) (m : Nat) (i : Int) (W : List (List D)) (b0 : Bool) (b1 : Bool) (b2 : Bool) (b3 : Bool) (b4 : Bool) (b5 : Bool) (b6 : Bool) (b7 : Bool) (b8 : Bool) (b9 : Bool) (b10 : Bool) (b11 : Bool) (b12 : Bool) (b13 : Bool) (b14 : Bool) (b15 : Bool) (N : X → Prop) (E : Exit → X → Prop) : (roundV Try.prog (gKm an [(51, 6), (60, 2)] [] []) Try.f12 0 [] [0, 1, 2, 3, 9, 11, 12, 13] [10, 34000, 34001, 34002, 34003, 12, 13] (v_stT R sp at' id lk) (fun _ => v_stT R sp at' id lk) N E (stT R sp at' id lk n m i W b0 b1 b2 b3 b4 b5 b6 b7 b8 b9 b10 b11 b12 b13 b14 b15)) = (bif decide (i < @Nat.cast Int _ (List.length R)) then bif decide (i < 8) then bif decide (0 ≤ i) && decide (i < @Nat.cast Int _ (List.length R)) then bif isJ [IntKind.i64] (List.drop (0) (List.getD R (Int.toNat i) [])) then an (hdJ (List.drop (0) (List.getD R (Int.toNat i) []))) (15) = 6 ∧ bif !b6 then an (6) (3) = 2 ∧ bif decide (n ≤ List.length W) && (decide ((n + 1) * 24 ≤ 140737488355328) && decide (n + 1 ≤ 9223372036854775807)) then stT R sp at' id lk (n + 1) (n + 1) (IntKind.wrap IntKind.i64 (i + 1)) (List.take n W ++ [[D.v (Value.int IntKind.i64 (1)), D.v (Value.int IntKind.i64 (2)), D.v (Value.int IntKind.i64 (0))]]) b0 b1 b2 b3 b4 b5 true b7 b8 b9 b10 b11 b12 b13 b14 b15 = stT R sp at' id lk (n + 1) (n + 1) (IntKind.wrap IntKind.i64 (i + 1)) (List.take n W ++ [[D.v (Value.int IntKind.i64 (1)), D.v (Value.int IntKind.i64 (2)), D.v (Value.int IntKind.i64 (0))]]) b0 b1 b2 b3 b4 b5 true b7 b8 b9 b10 b11 b12 b13 b14 b15 ∧ N (stT R sp at' id lk (n + 1) (n + 1) (IntKind.wrap IntKind.i64 (i + 1)) (List.take n W ++ [[D.v (Value.int IntKind.i64 (1)), D.v (Value.int IntKind.i64 (2)), D.v (Value.int IntKind.i64 (0))]]) b0 b1 b2 b3 b4 b5 true b7 b8 b9 b10 b11 b12 b13 b14 b15) else False else stT R sp at' id lk n m (IntKind.wrap IntKind.i64 (i + 1)) W b0 b1 b2 b3 b4 b5 true b7 b8 b9 b10 b11 b12 b13 b14 b15 = stT R sp at' id lk n m (IntKind.wrap IntKind.i64 (i + 1)) W b0 b1 b2 b3 b4 b5 true b7 b8 b9 b10 b11 b12 b13 b14 b15 ∧ N (stT R sp at' id lk n m (IntKind.wrap IntKind.i64 (i + 1)) W b0 b1 b2 b3 b4 b5 true b7 b8 b9 b10 b11 b12 b13 b14 b15) else False else False else stT R sp at' id lk n m i W b0 b1 b2 b3 b4 b5 b6 b7 b8 b9 b10 b11 b12 b13 b14 b15 = stT R sp at' id lk n m i W b0 b1 b2 b3 b4 b5 b6 b7 b8 b9 b10 b11 b12 b13 b14 b15 ∧ E (Exit.exit (0)) (stT R sp at' id lk n m i W b0 b1 b2 b3 b4 b5 b6 b7 b8 b9 b10 b11 b12 b13 b14 b15) else stT R sp at' id lk n m i W b0 b1 b2 b3 b4 b5 b6 b7 b8 b9 b10 b11 b12 b13 b14 b15 = stT R sp at' id lk n m i W b0 b1 b2 b3 b4 b5 b6 b7 b8 b9 b10 b11 b12 b13 b14 b15 ∧ E (Exit.exit (0)) (stT R sp at' id lk n m i W b0 b1 b2 b3 b4 b5 b6 b7 b8 b9 b10 b11 b12 b13 b14 b15)) := by kernel_rfl
theorem qT_6 {R sp : List (List D)} {at' id : Int} {lk : Bool} {l : List (List Int)} {f : Nat → Bool} {i : Nat} (hR : okZ 1 R = true) (hv : InvT l f) (hi : i < R.length) (hi2 : i < 8) (hk : band (hdJ (R.getD i [])) 15 = 6) {N : X → Prop} {E : Exit → X → Prop}
    (h : ∀ l' f', InvT l' f' → N (sfT R sp at' id lk l' f' ((i + 1 : Nat) : Int))) : roundV Try.prog (gKm band [(51, 6), (60, 2)] [] []) Try.f12 0 [] [0, 1, 2, 3, 9, 11, 12, 13] [10, 34000, 34001, 34002, 34003, 12, 13] (v_stT R sp at' id lk) (fun _ => v_stT R sp at' id lk) N E (sfT R sp at' id lk l f i) := by
  unfold sfT
  rw [rT_6]
  obtain ⟨el, hw, hn⟩ := okZ_spec hR
  have hll : i < (toZ R).length := by rw [toZ_len]; exact hi
  have hj1 : isJ [IntKind.i64] (R.getD i []) = true := by
    rw [el]; exact isJ_mZ (j := 0) (n := 1) hw hll (by omega)
  have wi : IntKind.wrap .i64 ((i : Int) + 1) = ((i + 1 : Nat) : Int) := wrap_nat (n := 1) (by omega)
  have hi3 : (i : Int) < 8 := by omega
  have hk3 : band 6 3 = 2 := by rw [mask2]; rfl
  have h16 := rmay16 hv.inv.may
  have m1 : decide ((l.length + 1) * 24 ≤ 140737488355328) = true := decide_eq_true (by omega)
  have m2 : decide (l.length + 1 ≤ 9223372036854775807) = true := decide_eq_true (by omega)
  cases hb : f 6 with
  | true =>
    have hh := h l f hv
    unfold sfT at hh
    rw [hb] at hh
    simp only [Int.ofNat_lt, hi, hi3, decide_true, cond_true, Int.natCast_nonneg, Bool.and_self, Int.toNat_natCast, List.drop_zero, hj1, hk, wi, cond_false, Bool.not_true, true_and]
    exact hh
  | false =>
    have hh := h _ _ (hv.step (k := 6) (by omega) hb)
    unfold sfT at hh
    have q1 : List.take l.length (mZ l) ++ [[D.v (.int .i64 1), D.v (.int .i64 2), D.v (.int .i64 0)]] = mZ (l ++ [pl 6]) := by
      rw [tkm, ← mZ_append]; rfl
    have q2 : (l ++ [pl 6]).length = l.length + 1 := by simp
    rw [q2] at hh
    simp only [Int.ofNat_lt, hi, hi3, decide_true, cond_true, Int.natCast_nonneg, Bool.and_self, Int.toNat_natCast, List.drop_zero, hj1, hk, hk3, wi, Nat.le_refl, mZ_len, cond_false, Bool.not_false, true_and, q1, m1, m2]
    exact hh
theorem xT_6 {R sp : List (List D)} {at' id : Int} {lk : Bool} {Q : Exit → X → Prop} {l : List (List Int)} {f : Nat → Bool} {i : Nat} (hR : okZ 1 R = true) (hv : InvT l f) (h1 : i < R.length) (h2 : i < 8) (hk : band (hdJ (R.getD i [])) 15 = 6) :
    ∃ H, CallsOK Try.prog H ∧ LoopsOK Try.prog H (bodyL Try.f12 0) ∧ roundV Try.prog H Try.f12 0 [] [0, 1, 2, 3, 9, 11, 12, 13] [10, 34000, 34001, 34002, 34003, 12, 13] (v_stT R sp at' id lk) (fun _ => v_stT R sp at' id lk) (fun y => ∃ p' : (List (List Int) × (Nat → Bool)) × Nat, R.length - p'.2 < R.length - i ∧ (InvT p'.1.1 p'.1.2 ∧ p'.2 ≤ R.length) ∧ y = sfT R sp at' id lk p'.1.1 p'.1.2 p'.2) Q (sfT R sp at' id lk l f i) := by
  refine ⟨_, gKm_ok [(51, 6), (60, 2)] .nil, loops_nil rfl, qT_6 hR hv h1 h2 hk (fun l' f' hv' => ⟨((l', f'), i + 1), ?_, ⟨hv', h1⟩, rfl⟩)⟩
  show R.length - (i + 1) < R.length - i
  omega
theorem rT_7 (an : Int → Int → Int) (R : List (List D)) (sp : List (List D)) (at' : Int) (id : Int) (lk : Bool) (n : Nat) (m : Nat) (i : Int) (W : List (List D)) (b0 : Bool) (b1 : Bool) (b2 : Bool) (b3 : Bool) (b4 : Bool) (b5 : Bool) (b6 : Bool) (b7 : Bool) (b8 : Bool) (b9 : Bool) (b10 : Bool) (b11 : Bool) (b12 : Bool) (b13 : Bool) (b14 : Bool) (b15 : Bool) (N : X → Prop) (E : Exit → X → Prop) : (roundV Try.prog (gKm an [(51, 7), (60, 3)] [] []) Try.f12 0 [] [0, 1, 2, 3, 9, 11, 12, 13] [10, 34000, 34001, 34002, 34003, 12, 13] (v_stT R sp at' id lk) (fun _ => v_stT R sp at' id lk) N E (stT R sp at' id lk n m i W b0 b1 b2 b3 b4 b5 b6 b7 b8 b9 b10 b11 b12 b13 b14 b15)) = (bif decide (i < @Nat.cast Int _ (List.length R)) then bif decide (i < 8) then bif decide (0 ≤ i) && decide (i < @Nat.cast Int _ (List.length R)) then bif isJ [IntKind.i64] (List.drop (0) (List.getD R (Int.toNat i) [])) then an (hdJ (List.drop (0) (List.getD R (Int.toNat i) []))) (15) = 7 ∧ bif !b7 then an (7) (3) = 3 ∧ bif decide (n ≤ List.length W) && (decide ((n + 1) * 24 ≤ 140737488355328) && decide (n + 1 ≤ 9223372036854775807)) then stT R sp at' id lk (n + 1) (n + 1) (IntKind.wrap IntKind.i64 (i + 1)) (List.take n W ++ [[D.v (Value.int IntKind.i64 (1)), D.v (Value.int IntKind.i64 (3)), D.v (Value.int IntKind.i64 (0))]]) b0 b1 b2 b3 b4 b5 b6 true b8 b9 b10 b11 b12 b13 b14 b15 = stT R sp at' id lk (n + 1) (n + 1) (IntKind.wrap IntKind.i64 (i + 1)) (List.take n W ++ [[D.v (Value.int IntKind.i64 (1)), D.v (Value.int IntKind.i64 (3)), D.v (Value.int IntKind.i64 (0))]]) b0 b1 b2 b3 b4 b5 b6 true b8 b9 b10 b11 b12 b13 b14 b15 ∧ N (stT R sp at' id lk (n + 1) (n + 1) (IntKind.wrap IntKind.i64 (i + 1)) (List.take n W ++ [[D.v (Value.int IntKind.i64 (1)), D.v (Value.int IntKind.i64 (3)), D.v (Value.int IntKind.i64 (0))]]) b0 b1 b2 b3 b4 b5 b6 true b8 b9 b10 b11 b12 b13 b14 b15) else False else stT R sp at' id lk n m (IntKind.wrap IntKind.i64 (i + 1)) W b0 b1 b2 b3 b4 b5 b6 true b8 b9 b10 b11 b12 b13 b14 b15 = stT R sp at' id lk n m (IntKind.wrap IntKind.i64 (i + 1)) W b0 b1 b2 b3 b4 b5 b6 true b8 b9 b10 b11 b12 b13 b14 b15 ∧ N (stT R sp at' id lk n m (IntKind.wrap IntKind.i64 (i + 1)) W b0 b1 b2 b3 b4 b5 b6 true b8 b9 b10 b11 b12 b13 b14 b15) else False else False else stT R sp at' id lk n m i W b0 b1 b2 b3 b4 b5 b6 b7 b8 b9 b10 b11 b12 b13 b14 b15 = stT R sp at' id lk n m i W b0 b1 b2 b3 b4 b5 b6 b7 b8 b9 b10 b11 b12 b13 b14 b15 ∧ E (Exit.exit (0)) (stT R sp at' id lk n m i W b0 b1 b2 b3 b4 b5 b6 b7 b8 b9 b10 b11 b12 b13 b14 b15) else stT R sp at' id lk n m i W b0 b1 b2 b3 b4 b5 b6 b7 b8 b9 b10 b11 b12 b13 b14 b15 = stT R sp at' id lk n m i W b0 b1 b2 b3 b4 b5 b6 b7 b8 b9 b10 b11 b12 b13 b14 b15 ∧ E (Exit.exit (0)) (stT R sp at' id lk n m i W b0 b1 b2 b3 b4 b5 b6 b7 b8 b9 b10 b11 b12 b13 b14 b15)) := by kernel_rfl
theorem qT_7 {R sp : List (List D)} {at' id : Int} {lk : Bool} {l : List (List Int)} {f : Nat → Bool} {i : Nat} (hR : okZ 1 R = true) (hv : InvT l f) (hi : i < R.length) (hi2 : i < 8) (hk : band (hdJ (R.getD i [])) 15 = 7) {N : X → Prop} {E : Exit → X → Prop}
    (h : ∀ l' f', InvT l' f' → N (sfT R sp at' id lk l' f' ((i + 1 : Nat) : Int))) : roundV Try.prog (gKm band [(51, 7), (60, 3)] [] []) Try.f12 0 [] [0, 1, 2, 3, 9, 11, 12, 13] [10, 34000, 34001, 34002, 34003, 12, 13] (v_stT R sp at' id lk) (fun _ => v_stT R sp at' id lk) N E (sfT R sp at' id lk l f i) := by
  unfold sfT
  rw [rT_7]
  obtain ⟨el, hw, hn⟩ := okZ_spec hR
  have hll : i < (toZ R).length := by rw [toZ_len]; exact hi
  have hj1 : isJ [IntKind.i64] (R.getD i []) = true := by
    rw [el]; exact isJ_mZ (j := 0) (n := 1) hw hll (by omega)
  have wi : IntKind.wrap .i64 ((i : Int) + 1) = ((i + 1 : Nat) : Int) := wrap_nat (n := 1) (by omega)
  have hi3 : (i : Int) < 8 := by omega
  have hk3 : band 7 3 = 3 := by rw [mask2]; rfl
  have h16 := rmay16 hv.inv.may
  have m1 : decide ((l.length + 1) * 24 ≤ 140737488355328) = true := decide_eq_true (by omega)
  have m2 : decide (l.length + 1 ≤ 9223372036854775807) = true := decide_eq_true (by omega)
  cases hb : f 7 with
  | true =>
    have hh := h l f hv
    unfold sfT at hh
    rw [hb] at hh
    simp only [Int.ofNat_lt, hi, hi3, decide_true, cond_true, Int.natCast_nonneg, Bool.and_self, Int.toNat_natCast, List.drop_zero, hj1, hk, wi, cond_false, Bool.not_true, true_and]
    exact hh
  | false =>
    have hh := h _ _ (hv.step (k := 7) (by omega) hb)
    unfold sfT at hh
    have q1 : List.take l.length (mZ l) ++ [[D.v (.int .i64 1), D.v (.int .i64 3), D.v (.int .i64 0)]] = mZ (l ++ [pl 7]) := by
      rw [tkm, ← mZ_append]; rfl
    have q2 : (l ++ [pl 7]).length = l.length + 1 := by simp
    rw [q2] at hh
    simp only [Int.ofNat_lt, hi, hi3, decide_true, cond_true, Int.natCast_nonneg, Bool.and_self, Int.toNat_natCast, List.drop_zero, hj1, hk, hk3, wi, Nat.le_refl, mZ_len, cond_false, Bool.not_false, true_and, q1, m1, m2]
    exact hh
theorem xT_7 {R sp : List (List D)} {at' id : Int} {lk : Bool} {Q : Exit → X → Prop} {l : List (List Int)} {f : Nat → Bool} {i : Nat} (hR : okZ 1 R = true) (hv : InvT l f) (h1 : i < R.length) (h2 : i < 8) (hk : band (hdJ (R.getD i [])) 15 = 7) :
    ∃ H, CallsOK Try.prog H ∧ LoopsOK Try.prog H (bodyL Try.f12 0) ∧ roundV Try.prog H Try.f12 0 [] [0, 1, 2, 3, 9, 11, 12, 13] [10, 34000, 34001, 34002, 34003, 12, 13] (v_stT R sp at' id lk) (fun _ => v_stT R sp at' id lk) (fun y => ∃ p' : (List (List Int) × (Nat → Bool)) × Nat, R.length - p'.2 < R.length - i ∧ (InvT p'.1.1 p'.1.2 ∧ p'.2 ≤ R.length) ∧ y = sfT R sp at' id lk p'.1.1 p'.1.2 p'.2) Q (sfT R sp at' id lk l f i) := by
  refine ⟨_, gKm_ok [(51, 7), (60, 3)] .nil, loops_nil rfl, qT_7 hR hv h1 h2 hk (fun l' f' hv' => ⟨((l', f'), i + 1), ?_, ⟨hv', h1⟩, rfl⟩)⟩
  show R.length - (i + 1) < R.length - i
  omega
theorem rT_8 (an : Int → Int → Int) (R : List (List D)) (sp : List (List D)) (at' : Int) (id : Int) (lk : Bool) (n : Nat) (m : Nat) (i : Int) (W : List (List D)) (b0 : Bool) (b1 : Bool) (b2 : Bool) (b3 : Bool) (b4 : Bool) (b5 : Bool) (b6 : Bool) (b7 : Bool) (b8 : Bool) (b9 : Bool) (b10 : Bool) (b11 : Bool) (b12 : Bool) (b13 : Bool) (b14 : Bool) (b15 : Bool) (N : X → Prop) (E : Exit → X → Prop) : (roundV Try.prog (gKm an [(51, 8), (60, 0)] [] []) Try.f12 0 [] [0, 1, 2, 3, 9, 11, 12, 13] [10, 34000, 34001, 34002, 34003, 12, 13] (v_stT R sp at' id lk) (fun _ => v_stT R sp at' id lk) N E (stT R sp at' id lk n m i W b0 b1 b2 b3 b4 b5 b6 b7 b8 b9 b10 b11 b12 b13 b14 b15)) = (bif decide (i < @Nat.cast Int _ (List.length R)) then bif decide (i < 8) then bif decide (0 ≤ i) && decide (i < @Nat.cast Int _ (List.length R)) then bif isJ [IntKind.i64] (List.drop (0) (List.getD R (Int.toNat i) [])) then an (hdJ (List.drop (0) (List.getD R (Int.toNat i) []))) (15) = 8 ∧ bif !b8 then an (8) (3) = 0 ∧ bif decide (n ≤ List.length W) && (decide ((n + 1) * 24 ≤ 140737488355328) && decide (n + 1 ≤ 9223372036854775807)) then stT R sp at' id lk (n + 1) (n + 1) (IntKind.wrap IntKind.i64 (i + 1)) (List.take n W ++ [[D.v (Value.int IntKind.i64 (2)), D.v (Value.int IntKind.i64 (0)), D.v (Value.int IntKind.i64 (0))]]) b0 b1 b2 b3 b4 b5 b6 b7 true b9 b10 b11 b12 b13 b14 b15 = stT R sp at' id lk (n + 1) (n + 1) (IntKind.wrap IntKind.i64 (i + 1)) (List.take n W ++ [[D.v (Value.int IntKind.i64 (2)), D.v (Value.int IntKind.i64 (0)), D.v (Value.int IntKind.i64 (0))]]) b0 b1 b2 b3 b4 b5 b6 b7 true b9 b10 b11 b12 b13 b14 b15 ∧ N (stT R sp at' id lk (n + 1) (n + 1) (IntKind.wrap IntKind.i64 (i + 1)) (List.take n W ++ [[D.v (Value.int IntKind.i64 (2)), D.v (Value.int IntKind.i64 (0)), D.v (Value.int IntKind.i64 (0))]]) b0 b1 b2 b3 b4 b5 b6 b7 true b9 b10 b11 b12 b13 b14 b15) else False else stT R sp at' id lk n m (IntKind.wrap IntKind.i64 (i + 1)) W b0 b1 b2 b3 b4 b5 b6 b7 true b9 b10 b11 b12 b13 b14 b15 = stT R sp at' id lk n m (IntKind.wrap IntKind.i64 (i + 1)) W b0 b1 b2 b3 b4 b5 b6 b7 true b9 b10 b11 b12 b13 b14 b15 ∧ N (stT R sp at' id lk n m (IntKind.wrap IntKind.i64 (i + 1)) W b0 b1 b2 b3 b4 b5 b6 b7 true b9 b10 b11 b12 b13 b14 b15) else False else False else stT R sp at' id lk n m i W b0 b1 b2 b3 b4 b5 b6 b7 b8 b9 b10 b11 b12 b13 b14 b15 = stT R sp at' id lk n m i W b0 b1 b2 b3 b4 b5 b6 b7 b8 b9 b10 b11 b12 b13 b14 b15 ∧ E (Exit.exit (0)) (stT R sp at' id lk n m i W b0 b1 b2 b3 b4 b5 b6 b7 b8 b9 b10 b11 b12 b13 b14 b15) else stT R sp at' id lk n m i W b0 b1 b2 b3 b4 b5 b6 b7 b8 b9 b10 b11 b12 b13 b14 b15 = stT R sp at' id lk n m i W b0 b1 b2 b3 b4 b5 b6 b7 b8 b9 b10 b11 b12 b13 b14 b15 ∧ E (Exit.exit (0)) (stT R sp at' id lk n m i W b0 b1 b2 b3 b4 b5 b6 b7 b8 b9 b10 b11 b12 b13 b14 b15)) := by kernel_rfl
theorem qT_8 {R sp : List (List D)} {at' id : Int} {lk : Bool} {l : List (List Int)} {f : Nat → Bool} {i : Nat} (hR : okZ 1 R = true) (hv : InvT l f) (hi : i < R.length) (hi2 : i < 8) (hk : band (hdJ (R.getD i [])) 15 = 8) {N : X → Prop} {E : Exit → X → Prop}
    (h : ∀ l' f', InvT l' f' → N (sfT R sp at' id lk l' f' ((i + 1 : Nat) : Int))) : roundV Try.prog (gKm band [(51, 8), (60, 0)] [] []) Try.f12 0 [] [0, 1, 2, 3, 9, 11, 12, 13] [10, 34000, 34001, 34002, 34003, 12, 13] (v_stT R sp at' id lk) (fun _ => v_stT R sp at' id lk) N E (sfT R sp at' id lk l f i) := by
  unfold sfT
  rw [rT_8]
  obtain ⟨el, hw, hn⟩ := okZ_spec hR
  have hll : i < (toZ R).length := by rw [toZ_len]; exact hi
  have hj1 : isJ [IntKind.i64] (R.getD i []) = true := by
    rw [el]; exact isJ_mZ (j := 0) (n := 1) hw hll (by omega)
  have wi : IntKind.wrap .i64 ((i : Int) + 1) = ((i + 1 : Nat) : Int) := wrap_nat (n := 1) (by omega)
  have hi3 : (i : Int) < 8 := by omega
  have hk3 : band 8 3 = 0 := by rw [mask2]; rfl
  have h16 := rmay16 hv.inv.may
  have m1 : decide ((l.length + 1) * 24 ≤ 140737488355328) = true := decide_eq_true (by omega)
  have m2 : decide (l.length + 1 ≤ 9223372036854775807) = true := decide_eq_true (by omega)
  cases hb : f 8 with
  | true =>
    have hh := h l f hv
    unfold sfT at hh
    rw [hb] at hh
    simp only [Int.ofNat_lt, hi, hi3, decide_true, cond_true, Int.natCast_nonneg, Bool.and_self, Int.toNat_natCast, List.drop_zero, hj1, hk, wi, cond_false, Bool.not_true, true_and]
    exact hh
  | false =>
    have hh := h _ _ (hv.step (k := 8) (by omega) hb)
    unfold sfT at hh
    have q1 : List.take l.length (mZ l) ++ [[D.v (.int .i64 2), D.v (.int .i64 0), D.v (.int .i64 0)]] = mZ (l ++ [pl 8]) := by
      rw [tkm, ← mZ_append]; rfl
    have q2 : (l ++ [pl 8]).length = l.length + 1 := by simp
    rw [q2] at hh
    simp only [Int.ofNat_lt, hi, hi3, decide_true, cond_true, Int.natCast_nonneg, Bool.and_self, Int.toNat_natCast, List.drop_zero, hj1, hk, hk3, wi, Nat.le_refl, mZ_len, cond_false, Bool.not_false, true_and, q1, m1, m2]
    exact hh
theorem xT_8 {R sp : List (List D)} {at' id : Int} {lk : Bool} {Q : Exit → X → Prop} {l : List (List Int)} {f : Nat → Bool} {i : Nat} (hR : okZ 1 R = true) (hv : InvT l f) (h1 : i < R.length) (h2 : i < 8) (hk : band (hdJ (R.getD i [])) 15 = 8) :
    ∃ H, CallsOK Try.prog H ∧ LoopsOK Try.prog H (bodyL Try.f12 0) ∧ roundV Try.prog H Try.f12 0 [] [0, 1, 2, 3, 9, 11, 12, 13] [10, 34000, 34001, 34002, 34003, 12, 13] (v_stT R sp at' id lk) (fun _ => v_stT R sp at' id lk) (fun y => ∃ p' : (List (List Int) × (Nat → Bool)) × Nat, R.length - p'.2 < R.length - i ∧ (InvT p'.1.1 p'.1.2 ∧ p'.2 ≤ R.length) ∧ y = sfT R sp at' id lk p'.1.1 p'.1.2 p'.2) Q (sfT R sp at' id lk l f i) := by
  refine ⟨_, gKm_ok [(51, 8), (60, 0)] .nil, loops_nil rfl, qT_8 hR hv h1 h2 hk (fun l' f' hv' => ⟨((l', f'), i + 1), ?_, ⟨hv', h1⟩, rfl⟩)⟩
  show R.length - (i + 1) < R.length - i
  omega
theorem rT_9 (an : Int → Int → Int) (R : List (List D)) (sp : List (List D)) (at' : Int) (id : Int) (lk : Bool) (n : Nat) (m : Nat) (i : Int) (W : List (List D)) (b0 : Bool) (b1 : Bool) (b2 : Bool) (b3 : Bool) (b4 : Bool) (b5 : Bool) (b6 : Bool) (b7 : Bool) (b8 : Bool) (b9 : Bool) (b10 : Bool) (b11 : Bool) (b12 : Bool) (b13 : Bool) (b14 : Bool) (b15 : Bool) (N : X → Prop) (E : Exit → X → Prop) : (roundV Try.prog (gKm an [(51, 9), (60, 1)] [] []) Try.f12 0 [] [0, 1, 2, 3, 9, 11, 12, 13] [10, 34000, 34001, 34002, 34003, 12, 13] (v_stT R sp at' id lk) (fun _ => v_stT R sp at' id lk) N E (stT R sp at' id lk n m i W b0 b1 b2 b3 b4 b5 b6 b7 b8 b9 b10 b11 b12 b13 b14 b15)) = (bif decide (i < @Nat.cast Int _ (List.length R)) then bif decide (i < 8) then bif decide (0 ≤ i) && decide (i < @Nat.cast Int _ (List.length R)) then bif isJ [IntKind.i64] (List.drop (0) (List.getD R (Int.toNat i) [])) then an (hdJ (List.drop (0) (List.getD R (Int.toNat i) []))) (15) = 9 ∧ bif !b9 then an (9) (3) = 1 ∧ bif decide (n ≤ List.length W) && (decide ((n + 1) * 24 ≤ 140737488355328) && decide (n + 1 ≤ 9223372036854775807)) then stT R sp at' id lk (n + 1) (n + 1) (IntKind.wrap IntKind.i64 (i + 1)) (List.take n W ++ [[D.v (Value.int IntKind.i64 (2)), D.v (Value.int IntKind.i64 (1)), D.v (Value.int IntKind.i64 (0))]]) b0 b1 b2 b3 b4 b5 b6 b7 b8 true b10 b11 b12 b13 b14 b15 = stT R sp at' id lk (n + 1) (n + 1) (IntKind.wrap IntKind.i64 (i + 1)) (List.take n W ++ [[D.v (Value.int IntKind.i64 (2)), D.v (Value.int IntKind.i64 (1)), D.v (Value.int IntKind.i64 (0))]]) b0 b1 b2 b3 b4 b5 b6 b7 b8 true b10 b11 b12 b13 b14 b15 ∧ N (stT R sp at' id lk (n + 1) (n + 1) (IntKind.wrap IntKind.i64 (i + 1)) (List.take n W ++ [[D.v (Value.int IntKind.i64 (2)), D.v (Value.int IntKind.i64 (1)), D.v (Value.int IntKind.i64 (0))]]) b0 b1 b2 b3 b4 b5 b6 b7 b8 true b10 b11 b12 b13 b14 b15) else False else stT R sp at' id lk n m (IntKind.wrap IntKind.i64 (i + 1)) W b0 b1 b2 b3 b4 b5 b6 b7 b8 true b10 b11 b12 b13 b14 b15 = stT R sp at' id lk n m (IntKind.wrap IntKind.i64 (i + 1)) W b0 b1 b2 b3 b4 b5 b6 b7 b8 true b10 b11 b12 b13 b14 b15 ∧ N (stT R sp at' id lk n m (IntKind.wrap IntKind.i64 (i + 1)) W b0 b1 b2 b3 b4 b5 b6 b7 b8 true b10 b11 b12 b13 b14 b15) else False else False else stT R sp at' id lk n m i W b0 b1 b2 b3 b4 b5 b6 b7 b8 b9 b10 b11 b12 b13 b14 b15 = stT R sp at' id lk n m i W b0 b1 b2 b3 b4 b5 b6 b7 b8 b9 b10 b11 b12 b13 b14 b15 ∧ E (Exit.exit (0)) (stT R sp at' id lk n m i W b0 b1 b2 b3 b4 b5 b6 b7 b8 b9 b10 b11 b12 b13 b14 b15) else stT R sp at' id lk n m i W b0 b1 b2 b3 b4 b5 b6 b7 b8 b9 b10 b11 b12 b13 b14 b15 = stT R sp at' id lk n m i W b0 b1 b2 b3 b4 b5 b6 b7 b8 b9 b10 b11 b12 b13 b14 b15 ∧ E (Exit.exit (0)) (stT R sp at' id lk n m i W b0 b1 b2 b3 b4 b5 b6 b7 b8 b9 b10 b11 b12 b13 b14 b15)) := by kernel_rfl
theorem qT_9 {R sp : List (List D)} {at' id : Int} {lk : Bool} {l : List (List Int)} {f : Nat → Bool} {i : Nat} (hR : okZ 1 R = true) (hv : InvT l f) (hi : i < R.length) (hi2 : i < 8) (hk : band (hdJ (R.getD i [])) 15 = 9) {N : X → Prop} {E : Exit → X → Prop}
    (h : ∀ l' f', InvT l' f' → N (sfT R sp at' id lk l' f' ((i + 1 : Nat) : Int))) : roundV Try.prog (gKm band [(51, 9), (60, 1)] [] []) Try.f12 0 [] [0, 1, 2, 3, 9, 11, 12, 13] [10, 34000, 34001, 34002, 34003, 12, 13] (v_stT R sp at' id lk) (fun _ => v_stT R sp at' id lk) N E (sfT R sp at' id lk l f i) := by
  unfold sfT
  rw [rT_9]
  obtain ⟨el, hw, hn⟩ := okZ_spec hR
  have hll : i < (toZ R).length := by rw [toZ_len]; exact hi
  have hj1 : isJ [IntKind.i64] (R.getD i []) = true := by
    rw [el]; exact isJ_mZ (j := 0) (n := 1) hw hll (by omega)
  have wi : IntKind.wrap .i64 ((i : Int) + 1) = ((i + 1 : Nat) : Int) := wrap_nat (n := 1) (by omega)
  have hi3 : (i : Int) < 8 := by omega
  have hk3 : band 9 3 = 1 := by rw [mask2]; rfl
  have h16 := rmay16 hv.inv.may
  have m1 : decide ((l.length + 1) * 24 ≤ 140737488355328) = true := decide_eq_true (by omega)
  have m2 : decide (l.length + 1 ≤ 9223372036854775807) = true := decide_eq_true (by omega)
  cases hb : f 9 with
  | true =>
    have hh := h l f hv
    unfold sfT at hh
    rw [hb] at hh
    simp only [Int.ofNat_lt, hi, hi3, decide_true, cond_true, Int.natCast_nonneg, Bool.and_self, Int.toNat_natCast, List.drop_zero, hj1, hk, wi, cond_false, Bool.not_true, true_and]
    exact hh
  | false =>
    have hh := h _ _ (hv.step (k := 9) (by omega) hb)
    unfold sfT at hh
    have q1 : List.take l.length (mZ l) ++ [[D.v (.int .i64 2), D.v (.int .i64 1), D.v (.int .i64 0)]] = mZ (l ++ [pl 9]) := by
      rw [tkm, ← mZ_append]; rfl
    have q2 : (l ++ [pl 9]).length = l.length + 1 := by simp
    rw [q2] at hh
    simp only [Int.ofNat_lt, hi, hi3, decide_true, cond_true, Int.natCast_nonneg, Bool.and_self, Int.toNat_natCast, List.drop_zero, hj1, hk, hk3, wi, Nat.le_refl, mZ_len, cond_false, Bool.not_false, true_and, q1, m1, m2]
    exact hh
theorem xT_9 {R sp : List (List D)} {at' id : Int} {lk : Bool} {Q : Exit → X → Prop} {l : List (List Int)} {f : Nat → Bool} {i : Nat} (hR : okZ 1 R = true) (hv : InvT l f) (h1 : i < R.length) (h2 : i < 8) (hk : band (hdJ (R.getD i [])) 15 = 9) :
    ∃ H, CallsOK Try.prog H ∧ LoopsOK Try.prog H (bodyL Try.f12 0) ∧ roundV Try.prog H Try.f12 0 [] [0, 1, 2, 3, 9, 11, 12, 13] [10, 34000, 34001, 34002, 34003, 12, 13] (v_stT R sp at' id lk) (fun _ => v_stT R sp at' id lk) (fun y => ∃ p' : (List (List Int) × (Nat → Bool)) × Nat, R.length - p'.2 < R.length - i ∧ (InvT p'.1.1 p'.1.2 ∧ p'.2 ≤ R.length) ∧ y = sfT R sp at' id lk p'.1.1 p'.1.2 p'.2) Q (sfT R sp at' id lk l f i) := by
  refine ⟨_, gKm_ok [(51, 9), (60, 1)] .nil, loops_nil rfl, qT_9 hR hv h1 h2 hk (fun l' f' hv' => ⟨((l', f'), i + 1), ?_, ⟨hv', h1⟩, rfl⟩)⟩
  show R.length - (i + 1) < R.length - i
  omega
theorem rT_10 (an : Int → Int → Int) (R : List (List D)) (sp : List (List D)) (at' : Int) (id : Int) (lk : Bool) (n : Nat) (m : Nat) (i : Int) (W : List (List D)) (b0 : Bool) (b1 : Bool) (b2 : Bool) (b3 : Bool) (b4 : Bool) (b5 : Bool) (b6 : Bool) (b7 : Bool) (b8 : Bool) (b9 : Bool) (b10 : Bool) (b11 : Bool) (b12 : Bool) (b13 : Bool) (b14 : Bool) (b15 : Bool) (N : X → Prop) (E : Exit → X → Prop) : (roundV Try.prog (gKm an [(51, 10), (60, 2)] [] []) Try.f12 0 [] [0, 1, 2, 3, 9, 11, 12, 13] [10, 34000, 34001, 34002, 34003, 12, 13] (v_stT R sp at' id lk) (fun _ => v_stT R sp at' id lk) N E (stT R sp at' id lk n m i W b0 b1 b2 b3 b4 b5 b6 b7 b8 b9 b10 b11 b12 b13 b14 b15)) = (bif decide (i < @Nat.cast Int _ (List.length R)) then bif decide (i < 8) then bif decide (0 ≤ i) && decide (i < @Nat.cast Int _ (List.length R)) then bif isJ [IntKind.i64] (List.drop (0) (List.getD R (Int.toNat i) [])) then an (hdJ (List.drop (0) (List.getD R (Int.toNat i) []))) (15) = 10 ∧ bif !b10 then an (10) (3) = 2 ∧ bif decide (n ≤ List.length W) && (decide ((n + 1) * 24 ≤ 140737488355328) && decide (n + 1 ≤ 9223372036854775807)) then stT R sp at' id lk (n + 1) (n + 1) (IntKind.wrap IntKind.i64 (i + 1)) (List.take n W ++ [[D.v (Value.int IntKind.i64 (2)), D.v (Value.int IntKind.i64 (2)), D.v (Value.int IntKind.i64 (0))]]) b0 b1 b2 b3 b4 b5 b6 b7 b8 b9 true b11 b12 b13 b14 b15 = stT R sp at' id lk (n + 1) (n + 1) (IntKind.wrap IntKind.i64 (i + 1)) (List.take n W ++ [[D.v (Value.int IntKind.i64 (2)), D.v (Value.int IntKind.i64 (2)), D.v (Value.int IntKind.i64 (0))]]) b0 b1 b2 b3 b4 b5 b6 b7 b8 b9 true b11 b12 b13 b14 b15 ∧ N (stT R sp at' id lk (n + 1) (n + 1) (IntKind.wrap IntKind.i64 (i + 1)) (List.take n W ++ [[D.v (Value.int IntKind.i64 (2)), D.v (Value.int IntKind.i64 (2)), D.v (Value.int IntKind.i64 (0))]]) b0 b1 b2 b3 b4 b5 b6 b7 b8 b9 true b11 b12 b13 b14 b15) else False else stT R sp at' id lk n m (IntKind.wrap IntKind.i64 (i + 1)) W b0 b1 b2 b3 b4 b5 b6 b7 b8 b9 true b11 b12 b13 b14 b15 = stT R sp at' id lk n m (IntKind.wrap IntKind.i64 (i + 1)) W b0 b1 b2 b3 b4 b5 b6 b7 b8 b9 true b11 b12 b13 b14 b15 ∧ N (stT R sp at' id lk n m (IntKind.wrap IntKind.i64 (i + 1)) W b0 b1 b2 b3 b4 b5 b6 b7 b8 b9 true b11 b12 b13 b14 b15) else False else False else stT R sp at' id lk n m i W b0 b1 b2 b3 b4 b5 b6 b7 b8 b9 b10 b11 b12 b13 b14 b15 = stT R sp at' id lk n m i W b0 b1 b2 b3 b4 b5 b6 b7 b8 b9 b10 b11 b12 b13 b14 b15 ∧ E (Exit.exit (0)) (stT R sp at' id lk n m i W b0 b1 b2 b3 b4 b5 b6 b7 b8 b9 b10 b11 b12 b13 b14 b15) else stT R sp at' id lk n m i W b0 b1 b2 b3 b4 b5 b6 b7 b8 b9 b10 b11 b12 b13 b14 b15 = stT R sp at' id lk n m i W b0 b1 b2 b3 b4 b5 b6 b7 b8 b9 b10 b11 b12 b13 b14 b15 ∧ E (Exit.exit (0)) (stT R sp at' id lk n m i W b0 b1 b2 b3 b4 b5 b6 b7 b8 b9 b10 b11 b12 b13 b14 b15)) := by kernel_rfl
theorem qT_10 {R sp : List (List D)} {at' id : Int} {lk : Bool} {l : List (List Int)} {f : Nat → Bool} {i : Nat} (hR : okZ 1 R = true) (hv : InvT l f) (hi : i < R.length) (hi2 : i < 8) (hk : band (hdJ (R.getD i [])) 15 = 10) {N : X → Prop} {E : Exit → X → Prop}
    (h : ∀ l' f', InvT l' f' → N (sfT R sp at' id lk l' f' ((i + 1 : Nat) : Int))) : roundV Try.prog (gKm band [(51, 10), (60, 2)] [] []) Try.f12 0 [] [0, 1, 2, 3, 9, 11, 12, 13] [10, 34000, 34001, 34002, 34003, 12, 13] (v_stT R sp at' id lk) (fun _ => v_stT R sp at' id lk) N E (sfT R sp at' id lk l f i) := by
  unfold sfT
  rw [rT_10]
  obtain ⟨el, hw, hn⟩ := okZ_spec hR
  have hll : i < (toZ R).length := by rw [toZ_len]; exact hi
  have hj1 : isJ [IntKind.i64] (R.getD i []) = true := by
    rw [el]; exact isJ_mZ (j := 0) (n := 1) hw hll (by omega)
  have wi : IntKind.wrap .i64 ((i : Int) + 1) = ((i + 1 : Nat) : Int) := wrap_nat (n := 1) (by omega)
  have hi3 : (i : Int) < 8 := by omega
  have hk3 : band 10 3 = 2 := by rw [mask2]; rfl
  have h16 := rmay16 hv.inv.may
  have m1 : decide ((l.length + 1) * 24 ≤ 140737488355328) = true := decide_eq_true (by omega)
  have m2 : decide (l.length + 1 ≤ 9223372036854775807) = true := decide_eq_true (by omega)
  cases hb : f 10 with
  | true =>
    have hh := h l f hv
    unfold sfT at hh
    rw [hb] at hh
    simp only [Int.ofNat_lt, hi, hi3, decide_true, cond_true, Int.natCast_nonneg, Bool.and_self, Int.toNat_natCast, List.drop_zero, hj1, hk, wi, cond_false, Bool.not_true, true_and]
    exact hh
  | false =>
    have hh := h _ _ (hv.step (k := 10) (by omega) hb)
    unfold sfT at hh
    have q1 : List.take l.length (mZ l) ++ [[D.v (.int .i64 2), D.v (.int .i64 2), D.v (.int .i64 0)]] = mZ (l ++ [pl 10]) := by
      rw [tkm, ← mZ_append]; rfl
    have q2 : (l ++ [pl 10]).length = l.length + 1 := by simp
    rw [q2] at hh
    simp only [Int.ofNat_lt, hi, hi3, decide_true, cond_true, Int.natCast_nonneg, Bool.and_self, Int.toNat_natCast, List.drop_zero, hj1, hk, hk3, wi, Nat.le_refl, mZ_len, cond_false, Bool.not_false, true_and, q1, m1, m2]
    exact hh
theorem xT_10 {R sp : List (List D)} {at' id : Int} {lk : Bool} {Q : Exit → X → Prop} {l : List (List Int)} {f : Nat → Bool} {i : Nat} (hR : okZ 1 R = true) (hv : InvT l f) (h1 : i < R.length) (h2 : i < 8) (hk : band (hdJ (R.getD i [])) 15 = 10) :
    ∃ H, CallsOK Try.prog H ∧ LoopsOK Try.prog H (bodyL Try.f12 0) ∧ roundV Try.prog H Try.f12 0 [] [0, 1, 2, 3, 9, 11, 12, 13] [10, 34000, 34001, 34002, 34003, 12, 13] (v_stT R sp at' id lk) (fun _ => v_stT R sp at' id lk) (fun y => ∃ p' : (List (List Int) × (Nat → Bool)) × Nat, R.length - p'.2 < R.length - i ∧ (InvT p'.1.1 p'.1.2 ∧ p'.2 ≤ R.length) ∧ y = sfT R sp at' id lk p'.1.1 p'.1.2 p'.2) Q (sfT R sp at' id lk l f i) := by
  refine ⟨_, gKm_ok [(51, 10), (60, 2)] .nil, loops_nil rfl, qT_10 hR hv h1 h2 hk (fun l' f' hv' => ⟨((l', f'), i + 1), ?_, ⟨hv', h1⟩, rfl⟩)⟩
  show R.length - (i + 1) < R.length - i
  omega
theorem rT_11 (an : Int → Int → Int) (R : List (List D)) (sp : List (List D)) (at' : Int) (id : Int) (lk : Bool) (n : Nat) (m : Nat) (i : Int) (W : List (List D)) (b0 : Bool) (b1 : Bool) (b2 : Bool) (b3 : Bool) (b4 : Bool) (b5 : Bool) (b6 : Bool) (b7 : Bool) (b8 : Bool) (b9 : Bool) (b10 : Bool) (b11 : Bool) (b12 : Bool) (b13 : Bool) (b14 : Bool) (b15 : Bool) (N : X → Prop) (E : Exit → X → Prop) : (roundV Try.prog (gKm an [(51, 11), (60, 3)] [] []) Try.f12 0 [] [0, 1, 2, 3, 9, 11, 12, 13] [10, 34000, 34001, 34002, 34003, 12, 13] (v_stT R sp at' id lk) (fun _ => v_stT R sp at' id lk) N E (stT R sp at' id lk n m i W b0 b1 b2 b3 b4 b5 b6 b7 b8 b9 b10 b11 b12 b13 b14 b15)) = (bif decide (i < @Nat.cast Int _ (List.length R)) then bif decide (i < 8) then bif decide (0 ≤ i) && decide (i < @Nat.cast Int _ (List.length R)) then bif isJ [IntKind.i64] (List.drop (0) (List.getD R (Int.toNat i) [])) then an (hdJ (List.drop (0) (List.getD R (Int.toNat i) []))) (15) = 11 ∧ bif !b11 then an (11) (3) = 3 ∧ bif decide (n ≤ List.length W) && (decide ((n + 1) * 24 ≤ 140737488355328) && decide (n + 1 ≤ 9223372036854775807)) then stT R sp at' id lk (n + 1) (n + 1) (IntKind.wrap IntKind.i64 (i + 1)) (List.take n W ++ [[D.v (Value.int IntKind.i64 (2)), D.v (Value.int IntKind.i64 (3)), D.v (Value.int IntKind.i64 (0))]]) b0 b1 b2 b3 b4 b5 b6 b7 b8 b9 b10 true b12 b13 b14 b15 = stT R sp at' id lk (n + 1) (n + 1) (IntKind.wrap IntKind.i64 (i + 1)) (List.take n W ++ [[D.v (Value.int IntKind.i64 (2)), D.v (Value.int IntKind.i64 (3)), D.v (Value.int IntKind.i64 (0))]]) b0 b1 b2 b3 b4 b5 b6 b7 b8 b9 b10 true b12 b13 b14 b15 ∧ N (stT R sp at' id lk (n + 1) (n + 1) (IntKind.wrap IntKind.i64 (i + 1)) (List.take n W ++ [[D.v (Value.int IntKind.i64 (2)), D.v (Value.int IntKind.i64 (3)), D.v (Value.int IntKind.i64 (0))]]) b0 b1 b2 b3 b4 b5 b6 b7 b8 b9 b10 true b12 b13 b14 b15) else False else stT R sp at' id lk n m (IntKind.wrap IntKind.i64 (i + 1)) W b0 b1 b2 b3 b4 b5 b6 b7 b8 b9 b10 true b12 b13 b14 b15 = stT R sp at' id lk n m (IntKind.wrap IntKind.i64 (i + 1)) W b0 b1 b2 b3 b4 b5 b6 b7 b8 b9 b10 true b12 b13 b14 b15 ∧ N (stT R sp at' id lk n m (IntKind.wrap IntKind.i64 (i + 1)) W b0 b1 b2 b3 b4 b5 b6 b7 b8 b9 b10 true b12 b13 b14 b15) else False else False else stT R sp at' id lk n m i W b0 b1 b2 b3 b4 b5 b6 b7 b8 b9 b10 b11 b12 b13 b14 b15 = stT R sp at' id lk n m i W b0 b1 b2 b3 b4 b5 b6 b7 b8 b9 b10 b11 b12 b13 b14 b15 ∧ E (Exit.exit (0)) (stT R sp at' id lk n m i W b0 b1 b2 b3 b4 b5 b6 b7 b8 b9 b10 b11 b12 b13 b14 b15) else stT R sp at' id lk n m i W b0 b1 b2 b3 b4 b5 b6 b7 b8 b9 b10 b11 b12 b13 b14 b15 = stT R sp at' id lk n m i W b0 b1 b2 b3 b4 b5 b6 b7 b8 b9 b10 b11 b12 b13 b14 b15 ∧ E (Exit.exit (0)) (stT R sp at' id lk n m i W b0 b1 b2 b3 b4 b5 b6 b7 b8 b9 b10 b11 b12 b13 b14 b15)) := by kernel_rfl
theorem qT_11 {R sp : List (List D)} {at' id : Int} {lk : Bool} {l : List (List Int)} {f : Nat → Bool} {i : Nat} (hR : okZ 1 R = true) (hv : InvT l f) (hi : i < R.length) (hi2 : i < 8) (hk : band (hdJ (R.getD i [])) 15 = 11) {N : X → Prop} {E : Exit → X → Prop}
    (h : ∀ l' f', InvT l' f' → N (sfT R sp at' id lk l' f' ((i + 1 : Nat) : Int))) : roundV Try.prog (gKm band [(51, 11), (60, 3)] [] []) Try.f12 0 [] [0, 1, 2, 3, 9, 11, 12, 13] [10, 34000, 34001, 34002, 34003, 12, 13] (v_stT R sp at' id lk) (fun _ => v_stT R sp at' id lk) N E (sfT R sp at' id lk l f i) := by
  unfold sfT
  rw [rT_11]
  obtain ⟨el, hw, hn⟩ := okZ_spec hR
  have hll : i < (toZ R).length := by rw [toZ_len]; exact hi
  have hj1 : isJ [IntKind.i64] (R.getD i []) = true := by
    rw [el]; exact isJ_mZ (j := 0) (n := 1) hw hll (by omega)
  have wi : IntKind.wrap .i64 ((i : Int) + 1) = ((i + 1 : Nat) : Int) := wrap_nat (n := 1) (by omega)
  have hi3 : (i : Int) < 8 := by omega
  have hk3 : band 11 3 = 3 := by rw [mask2]; rfl
  have h16 := rmay16 hv.inv.may
  have m1 : decide ((l.length + 1) * 24 ≤ 140737488355328) = true := decide_eq_true (by omega)
  have m2 : decide (l.length + 1 ≤ 9223372036854775807) = true := decide_eq_true (by omega)
  cases hb : f 11 with
  | true =>
    have hh := h l f hv
    unfold sfT at hh
    rw [hb] at hh
    simp only [Int.ofNat_lt, hi, hi3, decide_true, cond_true, Int.natCast_nonneg, Bool.and_self, Int.toNat_natCast, List.drop_zero, hj1, hk, wi, cond_false, Bool.not_true, true_and]
    exact hh
  | false =>
    have hh := h _ _ (hv.step (k := 11) (by omega) hb)
    unfold sfT at hh
    have q1 : List.take l.length (mZ l) ++ [[D.v (.int .i64 2), D.v (.int .i64 3), D.v (.int .i64 0)]] = mZ (l ++ [pl 11]) := by
      rw [tkm, ← mZ_append]; rfl
    have q2 : (l ++ [pl 11]).length = l.length + 1 := by simp
    rw [q2] at hh
    simp only [Int.ofNat_lt, hi, hi3, decide_true, cond_true, Int.natCast_nonneg, Bool.and_self, Int.toNat_natCast, List.drop_zero, hj1, hk, hk3, wi, Nat.le_refl, mZ_len, cond_false, Bool.not_false, true_and, q1, m1, m2]
    exact hh
theorem xT_11 {R sp : List (List D)} {at' id : Int} {lk : Bool} {Q : Exit → X → Prop} {l : List (List Int)} {f : Nat → Bool} {i : Nat} (hR : okZ 1 R = true) (hv : InvT l f) (h1 : i < R.length) (h2 : i < 8) (hk : band (hdJ (R.getD i [])) 15 = 11) :
    ∃ H, CallsOK Try.prog H ∧ LoopsOK Try.prog H (bodyL Try.f12 0) ∧ roundV Try.prog H Try.f12 0 [] [0, 1, 2, 3, 9, 11, 12, 13] [10, 34000, 34001, 34002, 34003, 12, 13] (v_stT R sp at' id lk) (fun _ => v_stT R sp at' id lk) (fun y => ∃ p' : (List (List Int) × (Nat → Bool)) × Nat, R.length - p'.2 < R.length - i ∧ (InvT p'.1.1 p'.1.2 ∧ p'.2 ≤ R.length) ∧ y = sfT R sp at' id lk p'.1.1 p'.1.2 p'.2) Q (sfT R sp at' id lk l f i) := by
  refine ⟨_, gKm_ok [(51, 11), (60, 3)] .nil, loops_nil rfl, qT_11 hR hv h1 h2 hk (fun l' f' hv' => ⟨((l', f'), i + 1), ?_, ⟨hv', h1⟩, rfl⟩)⟩
  show R.length - (i + 1) < R.length - i
  omega
theorem rT_12 (an : Int → Int → Int) (R : List (List D)) (sp : List (List D)) (at' : Int) (id : Int) (lk : Bool) (n : Nat) (m : Nat) (i : Int) (W : List (List D)) (b0 : Bool) (b1 : Bool) (b2 : Bool) (b3 : Bool) (b4 : Bool) (b5 : Bool) (b6 : Bool) (b7 : Bool) (b8 : Bool) (b9 : Bool) (b10 : Bool) (b11 : Bool) (b12 : Bool) (b13 : Bool) (b14 : Bool) (b15 : Bool) (N : X → Prop) (E : Exit → X → Prop) : (roundV Try.prog (gKm an [(51, 12), (60, 0)] [] []) Try.f12 0 [] [0, 1, 2, 3, 9, 11, 12, 13] [10, 34000, 34001, 34002, 34003, 12, 13] (v_stT R sp at' id lk) (fun _ => v_stT R sp at' id lk) N E (stT R sp at' id lk n m i W b0 b1 b2 b3 b4 b5 b6 b7 b8 b9 b10 b11 b12 b13 b14 b15)) = (bif decide (i < @Nat.cast Int _ (List.length R)) then bif decide (i < 8) then bif decide (0 ≤ i) && decide (i < @Nat.cast Int _ (List.length R)) then bif isJ [IntKind.i64] (List.drop (0) (List.getD R (Int.toNat i) [])) then an (hdJ (List.drop (0) (List.getD R (Int.toNat i) []))) (15) = 12 ∧ bif !b12 then an (12) (3) = 0 ∧ bif decide (n ≤ List.length W) && (decide ((n + 1) * 24 ≤ 140737488355328) && decide (n + 1 ≤ 9223372036854775807)) then stT R sp at' id lk (n + 1) (n + 1) (IntKind.wrap IntKind.i64 (i + 1)) (List.take n W ++ [[D.v (Value.int IntKind.i64 (3)), D.v (Value.int IntKind.i64 (0)), D.v (Value.int IntKind.i64 (0))]]) b0 b1 b2 b3 b4 b5 b6 b7 b8 b9 b10 b11 true b13 b14 b15 = stT R sp at' id lk (n + 1) (n + 1) (IntKind.wrap IntKind.i64 (i + 1)) (List.take n W ++ [[D.v (Value.int IntKind.i64 (3)), D.v (Value.int IntKind.i64 (0)), D.v (Value.int IntKind.i64 (0))]]) b0 b1 b2 b3 b4 b5 b6 b7 b8 b9 b10 b11 true b13 b14 b15 ∧ N (stT R sp at' id lk (n + 1) (n + 1) (IntKind.wrap IntKind.i64 (i + 1)) (List.take n W ++ [[D.v (Value.int IntKind.i64 (3)), D.v (Value.int IntKind.i64 (0)), D.v (Value.int IntKind.i64 (0))]]) b0 b1 b2 b3 b4 b5 b6 b7 b8 b9 b10 b11 true b13 b14 b15) else False else stT R sp at' id lk n m (IntKind.wrap IntKind.i64 (i + 1)) W b0 b1 b2 b3 b4 b5 b6 b7 b8 b9 b10 b11 true b13 b14 b15 = stT R sp at' id lk n m (IntKind.wrap IntKind.i64 (i + 1)) W b0 b1 b2 b3 b4 b5 b6 b7 b8 b9 b10 b11 true b13 b14 b15 ∧ N (stT R sp at' id lk n m (IntKind.wrap IntKind.i64 (i + 1)) W b0 b1 b2 b3 b4 b5 b6 b7 b8 b9 b10 b11 true b13 b14 b15) else False else False else stT R sp at' id lk n m i W b0 b1 b2 b3 b4 b5 b6 b7 b8 b9 b10 b11 b12 b13 b14 b15 = stT R sp at' id lk n m i W b0 b1 b2 b3 b4 b5 b6 b7 b8 b9 b10 b11 b12 b13 b14 b15 ∧ E (Exit.exit (0)) (stT R sp at' id lk n m i W b0 b1 b2 b3 b4 b5 b6 b7 b8 b9 b10 b11 b12 b13 b14 b15) else stT R sp at' id lk n m i W b0 b1 b2 b3 b4 b5 b6 b7 b8 b9 b10 b11 b12 b13 b14 b15 = stT R sp at' id lk n m i W b0 b1 b2 b3 b4 b5 b6 b7 b8 b9 b10 b11 b12 b13 b14 b15 ∧ E (Exit.exit (0)) (stT R sp at' id lk n m i W b0 b1 b2 b3 b4 b5 b6 b7 b8 b9 b10 b11 b12 b13 b14 b15)) := by kernel_rfl
theorem qT_12 {R sp : List (List D)} {at' id : Int} {lk : Bool} {l : List (List Int)} {f : Nat → Bool} {i : Nat} (hR : okZ 1 R = true) (hv : InvT l f) (hi : i < R.length) (hi2 : i < 8) (hk : band (hdJ (R.getD i [])) 15 = 12) {N : X → Prop} {E : Exit → X → Prop}
    (h : ∀ l' f', InvT l' f' → N (sfT R sp at' id lk l' f' ((i + 1 : Nat) : Int))) : roundV Try.prog (gKm band [(51, 12), (60, 0)] [] []) Try.f12 0 [] [0, 1, 2, 3, 9, 11, 12, 13] [10, 34000, 34001, 34002, 34003, 12, 13] (v_stT R sp at' id lk) (fun _ => v_stT R sp at' id lk) N E (sfT R sp at' id lk l f i) := by
  unfold sfT
  rw [rT_12]
  obtain ⟨el, hw, hn⟩ := okZ_spec hR
  have hll : i < (toZ R).length := by rw [toZ_len]; exact hi
  have hj1 : isJ [IntKind.i64] (R.getD i []) = true := by
    rw [el]; exact isJ_mZ (j := 0) (n := 1) hw hll (by omega)
  have wi : IntKind.wrap .i64 ((i : Int) + 1) = ((i + 1 : Nat) : Int) := wrap_nat (n := 1) (by omega)
  have hi3 : (i : Int) < 8 := by omega
  have hk3 : band 12 3 = 0 := by rw [mask2]; rfl
  have h16 := rmay16 hv.inv.may
  have m1 : decide ((l.length + 1) * 24 ≤ 140737488355328) = true := decide_eq_true (by omega)
  have m2 : decide (l.length + 1 ≤ 9223372036854775807) = true := decide_eq_true (by omega)
  cases hb : f 12 with
  | true =>
    have hh := h l f hv
    unfold sfT at hh
    rw [hb] at hh
    simp only [Int.ofNat_lt, hi, hi3, decide_true, cond_true, Int.natCast_nonneg, Bool.and_self, Int.toNat_natCast, List.drop_zero, hj1, hk, wi, cond_false, Bool.not_true, true_and]
    exact hh
  | false =>
    have hh := h _ _ (hv.step (k := 12) (by omega) hb)
    unfold sfT at hh
    have q1 : List.take l.length (mZ l) ++ [[D.v (.int .i64 3), D.v (.int .i64 0), D.v (.int .i64 0)]] = mZ (l ++ [pl 12]) := by
      rw [tkm, ← mZ_append]; rfl
    have q2 : (l ++ [pl 12]).length = l.length + 1 := by simp
    rw [q2] at hh
    simp only [Int.ofNat_lt, hi, hi3, decide_true, cond_true, Int.natCast_nonneg, Bool.and_self, Int.toNat_natCast, List.drop_zero, hj1, hk, hk3, wi, Nat.le_refl, mZ_len, cond_false, Bool.not_false, true_and, q1, m1, m2]
    exact hh
theorem xT_12 {R sp : List (List D)} {at' id : Int} {lk : Bool} {Q : Exit → X → Prop} {l : List (List Int)} {f : Nat → Bool} {i : Nat} (hR : okZ 1 R = true) (hv : InvT l f) (h1 : i < R.length) (h2 : i < 8) (hk : band (hdJ (R.getD i [])) 15 = 12) :
    ∃ H, CallsOK Try.prog H ∧ LoopsOK Try.prog H (bodyL Try.f12 0) ∧ roundV Try.prog H Try.f12 0 [] [0, 1, 2, 3, 9, 11, 12, 13] [10, 34000, 34001, 34002, 34003, 12, 13] (v_stT R sp at' id lk) (fun _ => v_stT R sp at' id lk) (fun y => ∃ p' : (List (List Int) × (Nat → Bool)) × Nat, R.length - p'.2 < R.length - i ∧ (InvT p'.1.1 p'.1.2 ∧ p'.2 ≤ R.length) ∧ y = sfT R sp at' id lk p'.1.1 p'.1.2 p'.2) Q (sfT R sp at' id lk l f i) := by
  refine ⟨_, gKm_ok [(51, 12), (60, 0)] .nil, loops_nil rfl, qT_12 hR hv h1 h2 hk (fun l' f' hv' => ⟨((l', f'), i + 1), ?_, ⟨hv', h1⟩, rfl⟩)⟩
  show R.length - (i + 1) < R.length - i
  omega
theorem rT_13 (an : Int → Int → Int) (R : List (List D)) (sp : List (List D)) (at' : Int) (id : Int) (lk : Bool) (n : Nat) (m : Nat) (i : Int) (W : List (List D)) (b0 : Bool) (b1 : Bool) (b2 : Bool) (b3 : Bool) (b4 : Bool) (b5 : Bool) (b6 : Bool) (b7 : Bool) (b8 : Bool) (b9 : Bool) (b10 : Bool) (b11 : Bool) (b12 : Bool) (b13 : Bool) (b14 : Bool) (b15 : Bool) (N : X → Prop) (E : Exit → X → Prop) : (roundV Try.prog (gKm an [(51, 13), (60, 1)] [] []) Try.f12 0 [] [0, 1, 2, 3, 9, 11, 12, 13] [10, 34000, 34001, 34002, 34003, 12, 13] (v_stT R sp at' id lk) (fun _ => v_stT R sp at' id lk) N E (stT R sp at' id lk n m i W b0 b1 b2 b3 b4 b5 b6 b7 b8 b9 b10 b11 b12 b13 b14 b15)) = (bif decide (i < @Nat.cast Int _ (List.length R)) then bif decide (i < 8) then bif decide (0 ≤ i) && decide (i < @Nat.cast Int _ (List.length R)) then bif isJ [IntKind.i64] (List.drop (0) (List.getD R (Int.toNat i) [])) then an (hdJ (List.drop (0) (List.getD R (Int.toNat i) []))) (15) = 13 ∧ bif !b13 then an (13) (3) = 1 ∧ bif decide (n ≤ List.length W) && (decide ((n + 1) * 24 ≤ 140737488355328) && decide (n + 1 ≤ 9223372036854775807)) then stT R sp at' id lk (n + 1) (n + 1) (IntKind.wrap IntKind.i64 (i + 1)) (List.take n W ++ [[D.v (Value.int IntKind.i64 (3)), D.v (Value.int IntKind.i64 (1)), D.v (Value.int IntKind.i64 (0))]]) b0 b1 b2 b3 b4 b5 b6 b7 b8 b9 b10 b11 b12 true b14 b15 = stT R sp at' id lk (n + 1) (n + 1) (IntKind.wrap IntKind.i64 (i + 1)) (List.take n W ++ [[D.v (Value.int IntKind.i64 (3)), D.v (Value.int IntKind.i64 (1)), D.v (Value.int IntKind.i64 (0))]]) b0 b1 b2 b3 b4 b5 b6 b7 b8 b9 b10 b11 b12 true b14 b15 ∧ N (stT R sp at' id lk (n + 1) (n + 1) (IntKind.wrap IntKind.i64 (i + 1)) (List.take n W ++ [[D.v (Value.int IntKind.i64 (3)), D.v (Value.int IntKind.i64 (1)), D.v (Value.int IntKind.i64 (0))]]) b0 b1 b2 b3 b4 b5 b6 b7 b8 b9 b10 b11 b12 true b14 b15) else False else stT R sp at' id lk n m (IntKind.wrap IntKind.i64 (i + 1)) W b0 b1 b2 b3 b4 b5 b6 b7 b8 b9 b10 b11 b12 true b14 b15 = stT R sp at' id lk n m (IntKind.wrap IntKind.i64 (i + 1)) W b0 b1 b2 b3 b4 b5 b6 b7 b8 b9 b10 b11 b12 true b14 b15 ∧ N (stT R sp at' id lk n m (IntKind.wrap IntKind.i64 (i + 1)) W b0 b1 b2 b3 b4 b5 b6 b7 b8 b9 b10 b11 b12 true b14 b15) else False else False else stT R sp at' id lk n m i W b0 b1 b2 b3 b4 b5 b6 b7 b8 b9 b10 b11 b12 b13 b14 b15 = stT R sp at' id lk n m i W b0 b1 b2 b3 b4 b5 b6 b7 b8 b9 b10 b11 b12 b13 b14 b15 ∧ E (Exit.exit (0)) (stT R sp at' id lk n m i W b0 b1 b2 b3 b4 b5 b6 b7 b8 b9 b10 b11 b12 b13 b14 b15) else stT R sp at' id lk n m i W b0 b1 b2 b3 b4 b5 b6 b7 b8 b9 b10 b11 b12 b13 b14 b15 = stT R sp at' id lk n m i W b0 b1 b2 b3 b4 b5 b6 b7 b8 b9 b10 b11 b12 b13 b14 b15 ∧ E (Exit.exit (0)) (stT R sp at' id lk n m i W b0 b1 b2 b3 b4 b5 b6 b7 b8 b9 b10 b11 b12 b13 b14 b15)) := by kernel_rfl
theorem qT_13 {R sp : List (List D)} {at' id : Int} {lk : Bool} {l : List (List Int)} {f : Nat → Bool} {i : Nat} (hR : okZ 1 R = true) (hv : InvT l f) (hi : i < R.length) (hi2 : i < 8) (hk : band (hdJ (R.getD i [])) 15 = 13) {N : X → Prop} {E : Exit → X → Prop}
    (h : ∀ l' f', InvT l' f' → N (sfT R sp at' id lk l' f' ((i + 1 : Nat) : Int))) : roundV Try.prog (gKm band [(51, 13), (60, 1)] [] []) Try.f12 0 [] [0, 1, 2, 3, 9, 11, 12, 13] [10, 34000, 34001, 34002, 34003, 12, 13] (v_stT R sp at' id lk) (fun _ => v_stT R sp at' id lk) N E (sfT R sp at' id lk l f i) := by
  unfold sfT
  rw [rT_13]
  obtain ⟨el, hw, hn⟩ := okZ_spec hR
  have hll : i < (toZ R).length := by rw [toZ_len]; exact hi
  have hj1 : isJ [IntKind.i64] (R.getD i []) = true := by
    rw [el]; exact isJ_mZ (j := 0) (n := 1) hw hll (by omega)
  have wi : IntKind.wrap .i64 ((i : Int) + 1) = ((i + 1 : Nat) : Int) := wrap_nat (n := 1) (by omega)
  have hi3 : (i : Int) < 8 := by omega
  have hk3 : band 13 3 = 1 := by rw [mask2]; rfl
  have h16 := rmay16 hv.inv.may
  have m1 : decide ((l.length + 1) * 24 ≤ 140737488355328) = true := decide_eq_true (by omega)
  have m2 : decide (l.length + 1 ≤ 9223372036854775807) = true := decide_eq_true (by omega)
  cases hb : f 13 with
  | true =>
    have hh := h l f hv
    unfold sfT at hh
    rw [hb] at hh
    simp only [Int.ofNat_lt, hi, hi3, decide_true, cond_true, Int.natCast_nonneg, Bool.and_self, Int.toNat_natCast, List.drop_zero, hj1, hk, wi, cond_false, Bool.not_true, true_and]
    exact hh
  | false =>
    have hh := h _ _ (hv.step (k := 13) (by omega) hb)
    unfold sfT at hh
    have q1 : List.take l.length (mZ l) ++ [[D.v (.int .i64 3), D.v (.int .i64 1), D.v (.int .i64 0)]] = mZ (l ++ [pl 13]) := by
      rw [tkm, ← mZ_append]; rfl
    have q2 : (l ++ [pl 13]).length = l.length + 1 := by simp
    rw [q2] at hh
    simp only [Int.ofNat_lt, hi, hi3, decide_true, cond_true, Int.natCast_nonneg, Bool.and_self, Int.toNat_natCast, List.drop_zero, hj1, hk, hk3, wi, Nat.le_refl, mZ_len, cond_false, Bool.not_false, true_and, q1, m1, m2]
    exact hh
theorem xT_13 {R sp : List (List D)} {at' id : Int} {lk : Bool} {Q : Exit → X → Prop} {l : List (List Int)} {f : Nat → Bool} {i : Nat} (hR : okZ 1 R = true) (hv : InvT l f) (h1 : i < R.length) (h2 : i < 8) (hk : band (hdJ (R.getD i [])) 15 = 13) :
    ∃ H, CallsOK Try.prog H ∧ LoopsOK Try.prog H (bodyL Try.f12 0) ∧ roundV Try.prog H Try.f12 0 [] [0, 1, 2, 3, 9, 11, 12, 13] [10, 34000, 34001, 34002, 34003, 12, 13] (v_stT R sp at' id lk) (fun _ => v_stT R sp at' id lk) (fun y => ∃ p' : (List (List Int) × (Nat → Bool)) × Nat, R.length - p'.2 < R.length - i ∧ (InvT p'.1.1 p'.1.2 ∧ p'.2 ≤ R.length) ∧ y = sfT R sp at' id lk p'.1.1 p'.1.2 p'.2) Q (sfT R sp at' id lk l f i) := by
  refine ⟨_, gKm_ok [(51, 13), (60, 1)] .nil, loops_nil rfl, qT_13 hR hv h1 h2 hk (fun l' f' hv' => ⟨((l', f'), i + 1), ?_, ⟨hv', h1⟩, rfl⟩)⟩
  show R.length - (i + 1) < R.length - i
  omega
theorem rT_14 (an : Int → Int → Int) (R : List (List D)) (sp : List (List D)) (at' : Int) (id : Int) (lk : Bool) (n : Nat) (m : Nat) (i : Int) (W : List (List D)) (b0 : Bool) (b1 : Bool) (b2 : Bool) (b3 : Bool) (b4 : Bool) (b5 : Bool) (b6 : Bool) (b7 : Bool) (b8 : Bool) (b9 : Bool) (b10 : Bool) (b11 : Bool) (b12 : Bool) (b13 : Bool) (b14 : Bool) (b15 : Bool) (N : X → Prop) (E : Exit → X → Prop) : (roundV Try.prog (gKm an [(51, 14), (60, 2)] [] []) Try.f12 0 [] [0, 1, 2, 3, 9, 11, 12, 13] [10, 34000, 34001, 34002, 34003, 12, 13] (v_stT R sp at' id lk) (fun _ => v_stT R sp at' id lk) N E (stT R sp at' id lk n m i W b0 b1 b2 b3 b4 b5 b6 b7 b8 b9 b10 b11 b12 b13 b14 b15)) = (bif decide (i < @Nat.cast Int _ (List.length R)) then bif decide (i < 8) then bif decide (0 ≤ i) && decide (i < @Nat.cast Int _ (List.length R)) then bif isJ [IntKind.i64] (List.drop (0) (List.getD R (Int.toNat i) [])) then an (hdJ (List.drop (0) (List.getD R (Int.toNat i) []))) (15) = 14 ∧ bif !b14 then an (14) (3) = 2 ∧ bif decide (n ≤ List.length W) && (decide ((n + 1) * 24 ≤ 140737488355328) && decide (n + 1 ≤ 9223372036854775807)) then stT R sp at' id lk (n + 1) (n + 1) (IntKind.wrap IntKind.i64 (i + 1)) (List.take n W ++ [[D.v (Value.int IntKind.i64 (3)), D.v (Value.int IntKind.i64 (2)), D.v (Value.int IntKind.i64 (0))]]) b0 b1 b2 b3 b4 b5 b6 b7 b8 b9 b10 b11 b12 b13 true b15 = stT R sp at' id lk (n + 1) (n + 1) (IntKind.wrap IntKind.i64 (i + 1)) (List.take n W ++ [[D.v (Value.int IntKind.i64 (3)), D.v (Value.int IntKind.i64 (2)), D.v (Value.int IntKind.i64 (0))]]) b0 b1 b2 b3 b4 b5 b6 b7 b8 b9 b10 b11 b12 b13 true b15 ∧ N (stT R sp at' id lk (n + 1) (n + 1) (IntKind.wrap IntKind.i64 (i + 1)) (List.take n W ++ [[D.v (Value.int IntKind.i64 (3)), D.v (Value.int IntKind.i64 (2)), D.v (Value.int IntKind.i64 (0))]]) b0 b1 b2 b3 b4 b5 b6 b7 b8 b9 b10 b11 b12 b13 true b15) else False else stT R sp at' id lk n m (IntKind.wrap IntKind.i64 (i + 1)) W b0 b1 b2 b3 b4 b5 b6 b7 b8 b9 b10 b11 b12 b13 true b15 = stT R sp at' id lk n m (IntKind.wrap IntKind.i64 (i + 1)) W b0 b1 b2 b3 b4 b5 b6 b7 b8 b9 b10 b11 b12 b13 true b15 ∧ N (stT R sp at' id lk n m (IntKind.wrap IntKind.i64 (i + 1)) W b0 b1 b2 b3 b4 b5 b6 b7 b8 b9 b10 b11 b12 b13 true b15) else False else False else stT R sp at' id lk n m i W b0 b1 b2 b3 b4 b5 b6 b7 b8 b9 b10 b11 b12 b13 b14 b15 = stT R sp at' id lk n m i W b0 b1 b2 b3 b4 b5 b6 b7 b8 b9 b10 b11 b12 b13 b14 b15 ∧ E (Exit.exit (0)) (stT R sp at' id lk n m i W b0 b1 b2 b3 b4 b5 b6 b7 b8 b9 b10 b11 b12 b13 b14 b15) else stT R sp at' id lk n m i W b0 b1 b2 b3 b4 b5 b6 b7 b8 b9 b10 b11 b12 b13 b14 b15 = stT R sp at' id lk n m i W b0 b1 b2 b3 b4 b5 b6 b7 b8 b9 b10 b11 b12 b13 b14 b15 ∧ E (Exit.exit (0)) (stT R sp at' id lk n m i W b0 b1 b2 b3 b4 b5 b6 b7 b8 b9 b10 b11 b12 b13 b14 b15)) := by kernel_rfl
theorem qT_14 {R sp : List (List D)} {at' id : Int} {lk : Bool} {l : List (List Int)} {f : Nat → Bool} {i : Nat} (hR : okZ 1 R = true) (hv : InvT l f) (hi : i < R.length) (hi2 : i < 8) (hk : band (hdJ (R.getD i [])) 15 = 14) {N : X → Prop} {E : Exit → X → Prop}
    (h : ∀ l' f', InvT l' f' → N (sfT R sp at' id lk l' f' ((i + 1 : Nat) : Int))) : roundV Try.prog (gKm band [(51, 14), (60, 2)] [] []) Try.f12 0 [] [0, 1, 2, 3, 9, 11, 12, 13] [10, 34000, 34001, 34002, 34003, 12, 13] (v_stT R sp at' id lk) (fun _ => v_stT R sp at' id lk) N E (sfT R sp at' id lk l f i) := by
  unfold sfT
  rw [rT_14]
  obtain ⟨el, hw, hn⟩ := okZ_spec hR
  have hll : i < (toZ R).length := by rw [toZ_len]; exact hi
  have hj1 : isJ [IntKind.i64] (R.getD i []) = true := by
    rw [el]; exact isJ_mZ (j := 0) (n := 1) hw hll (by omega)
  have wi : IntKind.wrap .i64 ((i : Int) + 1) = ((i + 1 : Nat) : Int) := wrap_nat (n := 1) (by omega)
  have hi3 : (i : Int) < 8 := by omega
  have hk3 : band 14 3 = 2 := by rw [mask2]; rfl
  have h16 := rmay16 hv.inv.may
  have m1 : decide ((l.length + 1) * 24 ≤ 140737488355328) = true := decide_eq_true (by omega)
  have m2 : decide (l.length + 1 ≤ 9223372036854775807) = true := decide_eq_true (by omega)
  cases hb : f 14 with
  | true =>
    have hh := h l f hv
    unfold sfT at hh
    rw [hb] at hh
    simp only [Int.ofNat_lt, hi, hi3, decide_true, cond_true, Int.natCast_nonneg, Bool.and_self, Int.toNat_natCast, List.drop_zero, hj1, hk, wi, cond_false, Bool.not_true, true_and]
    exact hh
  | false =>
    have hh := h _ _ (hv.step (k := 14) (by omega) hb)
    unfold sfT at hh
    have q1 : List.take l.length (mZ l) ++ [[D.v (.int .i64 3), D.v (.int .i64 2), D.v (.int .i64 0)]] = mZ (l ++ [pl 14]) := by
      rw [tkm, ← mZ_append]; rfl
    have q2 : (l ++ [pl 14]).length = l.length + 1 := by simp
    rw [q2] at hh
    simp only [Int.ofNat_lt, hi, hi3, decide_true, cond_true, Int.natCast_nonneg, Bool.and_self, Int.toNat_natCast, List.drop_zero, hj1, hk, hk3, wi, Nat.le_refl, mZ_len, cond_false, Bool.not_false, true_and, q1, m1, m2]
    exact hh
theorem xT_14 {R sp : List (List D)} {at' id : Int} {lk : Bool} {Q : Exit → X → Prop} {l : List (List Int)} {f : Nat → Bool} {i : Nat} (hR : okZ 1 R = true) (hv : InvT l f) (h1 : i < R.length) (h2 : i < 8) (hk : band (hdJ (R.getD i [])) 15 = 14) :
    ∃ H, CallsOK Try.prog H ∧ LoopsOK Try.prog H (bodyL Try.f12 0) ∧ roundV Try.prog H Try.f12 0 [] [0, 1, 2, 3, 9, 11, 12, 13] [10, 34000, 34001, 34002, 34003, 12, 13] (v_stT R sp at' id lk) (fun _ => v_stT R sp at' id lk) (fun y => ∃ p' : (List (List Int) × (Nat → Bool)) × Nat, R.length - p'.2 < R.length - i ∧ (InvT p'.1.1 p'.1.2 ∧ p'.2 ≤ R.length) ∧ y = sfT R sp at' id lk p'.1.1 p'.1.2 p'.2) Q (sfT R sp at' id lk l f i) := by
  refine ⟨_, gKm_ok [(51, 14), (60, 2)] .nil, loops_nil rfl, qT_14 hR hv h1 h2 hk (fun l' f' hv' => ⟨((l', f'), i + 1), ?_, ⟨hv', h1⟩, rfl⟩)⟩
  show R.length - (i + 1) < R.length - i
  omega
theorem rT_15 (an : Int → Int → Int) (R : List (List D)) (sp : List (List D)) (at' : Int) (id : Int) (lk : Bool) (n : Nat) (m : Nat) (i : Int) (W : List (List D)) (b0 : Bool) (b1 : Bool) (b2 : Bool) (b3 : Bool) (b4 : Bool) (b5 : Bool) (b6 : Bool) (b7 : Bool) (b8 : Bool) (b9 : Bool) (b10 : Bool) (b11 : Bool) (b12 : Bool) (b13 : Bool) (b14 : Bool) (b15 : Bool) (N : X → Prop) (E : Exit → X → Prop) : (roundV Try.prog (gKm an [(51, 15), (60, 3)] [] []) Try.f12 0 [] [0, 1, 2, 3, 9, 11, 12, 13] [10, 34000, 34001, 34002, 34003, 12, 13] (v_stT R sp at' id lk) (fun _ => v_stT R sp at' id lk) N E (stT R sp at' id lk n m i W b0 b1 b2 b3 b4 b5 b6 b7 b8 b9 b10 b11 b12 b13 b14 b15)) = (bif decide (i < @Nat.cast Int _ (List.length R)) then bif decide (i < 8) then bif decide (0 ≤ i) && decide (i < @Nat.cast Int _ (List.length R)) then bif isJ [IntKind.i64] (List.drop (0) (List.getD R (Int.toNat i) [])) then an (hdJ (List.drop (0) (List.getD R (Int.toNat i) []))) (15) = 15 ∧ bif !b15 then an (15) (3) = 3 ∧ bif decide (n ≤ List.length W) && (decide ((n + 1) * 24 ≤ 140737488355328) && decide (n + 1 ≤ 9223372036854775807)) then stT R sp at' id lk (n + 1) (n + 1) (IntKind.wrap IntKind.i64 (i + 1)) (List.take n W ++ [[D.v (Value.int IntKind.i64 (3)), D.v (Value.int IntKind.i64 (3)), D.v (Value.int IntKind.i64 (0))]]) b0 b1 b2 b3 b4 b5 b6 b7 b8 b9 b10 b11 b12 b13 b14 true = stT R sp at' id lk (n + 1) (n + 1) (IntKind.wrap IntKind.i64 (i + 1)) (List.take n W ++ [[D.v (Value.int IntKind.i64 (3)), D.v (Value.int IntKind.i64 (3)), D.v (Value.int IntKind.i64 (0))]]) b0 b1 b2 b3 b4 b5 b6 b7 b8 b9 b10 b11 b12 b13 b14 true ∧ N (stT R sp at' id lk (n + 1) (n + 1) (IntKind.wrap IntKind.i64 (i + 1)) (List.take n W ++ [[D.v (Value.int IntKind.i64 (3)), D.v (Value.int IntKind.i64 (3)), D.v (Value.int IntKind.i64 (0))]]) b0 b1 b2 b3 b4 b5 b6 b7 b8 b9 b10 b11 b12 b13 b14 true) else False else stT R sp at' id lk n m (IntKind.wrap IntKind.i64 (i + 1)) W b0 b1 b2 b3 b4 b5 b6 b7 b8 b9 b10 b11 b12 b13 b14 true = stT R sp at' id lk n m (IntKind.wrap IntKind.i64 (i + 1)) W b0 b1 b2 b3 b4 b5 b6 b7 b8 b9 b10 b11 b12 b13 b14 true ∧ N (stT R sp at' id lk n m (IntKind.wrap IntKind.i64 (i + 1)) W b0 b1 b2 b3 b4 b5 b6 b7 b8 b9 b10 b11 b12 b13 b14 true) else False else False else stT R sp at' id lk n m i W b0 b1 b2 b3 b4 b5 b6 b7 b8 b9 b10 b11 b12 b13 b14 b15 = stT R sp at' id lk n m i W b0 b1 b2 b3 b4 b5 b6 b7 b8 b9 b10 b11 b12 b13 b14 b15 ∧ E (Exit.exit (0)) (stT R sp at' id lk n m i W b0 b1 b2 b3 b4 b5 b6 b7 b8 b9 b10 b11 b12 b13 b14 b15) else stT R sp at' id lk n m i W b0 b1 b2 b3 b4 b5 b6 b7 b8 b9 b10 b11 b12 b13 b14 b15 = stT R sp at' id lk n m i W b0 b1 b2 b3 b4 b5 b6 b7 b8 b9 b10 b11 b12 b13 b14 b15 ∧ E (Exit.exit (0)) (stT R sp at' id lk n m i W b0 b1 b2 b3 b4 b5 b6 b7 b8 b9 b10 b11 b12 b13 b14 b15)) := by kernel_rfl
theorem qT_15 {R sp : List (List D)} {at' id : Int} {lk : Bool} {l : List (List Int)} {f : Nat → Bool} {i : Nat} (hR : okZ 1 R = true) (hv : InvT l f) (hi : i < R.length) (hi2 : i < 8) (hk : band (hdJ (R.getD i [])) 15 = 15) {N : X → Prop} {E : Exit → X → Prop}
    (h : ∀ l' f', InvT l' f' → N (sfT R sp at' id lk l' f' ((i + 1 : Nat) : Int))) : roundV Try.prog (gKm band [(51, 15), (60, 3)] [] []) Try.f12 0 [] [0, 1, 2, 3, 9, 11, 12, 13] [10, 34000, 34001, 34002, 34003, 12, 13] (v_stT R sp at' id lk) (fun _ => v_stT R sp at' id lk) N E (sfT R sp at' id lk l f i) := by
  unfold sfT
  rw [rT_15]
  obtain ⟨el, hw, hn⟩ := okZ_spec hR
  have hll : i < (toZ R).length := by rw [toZ_len]; exact hi
  have hj1 : isJ [IntKind.i64] (R.getD i []) = true := by
    rw [el]; exact isJ_mZ (j := 0) (n := 1) hw hll (by omega)
  have wi : IntKind.wrap .i64 ((i : Int) + 1) = ((i + 1 : Nat) : Int) := wrap_nat (n := 1) (by omega)
  have hi3 : (i : Int) < 8 := by omega
  have hk3 : band 15 3 = 3 := by rw [mask2]; rfl
  have h16 := rmay16 hv.inv.may
  have m1 : decide ((l.length + 1) * 24 ≤ 140737488355328) = true := decide_eq_true (by omega)
  have m2 : decide (l.length + 1 ≤ 9223372036854775807) = true := decide_eq_true (by omega)
  cases hb : f 15 with
  | true =>
    have hh := h l f hv
    unfold sfT at hh
    rw [hb] at hh
    simp only [Int.ofNat_lt, hi, hi3, decide_true, cond_true, Int.natCast_nonneg, Bool.and_self, Int.toNat_natCast, List.drop_zero, hj1, hk, wi, cond_false, Bool.not_true, true_and]
    exact hh
  | false =>
    have hh := h _ _ (hv.step (k := 15) (by omega) hb)
    unfold sfT at hh
    have q1 : List.take l.length (mZ l) ++ [[D.v (.int .i64 3), D.v (.int .i64 3), D.v (.int .i64 0)]] = mZ (l ++ [pl 15]) := by
      rw [tkm, ← mZ_append]; rfl
    have q2 : (l ++ [pl 15]).length = l.length + 1 := by simp
    rw [q2] at hh
    simp only [Int.ofNat_lt, hi, hi3, decide_true, cond_true, Int.natCast_nonneg, Bool.and_self, Int.toNat_natCast, List.drop_zero, hj1, hk, hk3, wi, Nat.le_refl, mZ_len, cond_false, Bool.not_false, true_and, q1, m1, m2]
    exact hh
theorem xT_15 {R sp : List (List D)} {at' id : Int} {lk : Bool} {Q : Exit → X → Prop} {l : List (List Int)} {f : Nat → Bool} {i : Nat} (hR : okZ 1 R = true) (hv : InvT l f) (h1 : i < R.length) (h2 : i < 8) (hk : band (hdJ (R.getD i [])) 15 = 15) :
    ∃ H, CallsOK Try.prog H ∧ LoopsOK Try.prog H (bodyL Try.f12 0) ∧ roundV Try.prog H Try.f12 0 [] [0, 1, 2, 3, 9, 11, 12, 13] [10, 34000, 34001, 34002, 34003, 12, 13] (v_stT R sp at' id lk) (fun _ => v_stT R sp at' id lk) (fun y => ∃ p' : (List (List Int) × (Nat → Bool)) × Nat, R.length - p'.2 < R.length - i ∧ (InvT p'.1.1 p'.1.2 ∧ p'.2 ≤ R.length) ∧ y = sfT R sp at' id lk p'.1.1 p'.1.2 p'.2) Q (sfT R sp at' id lk l f i) := by
  refine ⟨_, gKm_ok [(51, 15), (60, 3)] .nil, loops_nil rfl, qT_15 hR hv h1 h2 hk (fun l' f' hv' => ⟨((l', f'), i + 1), ?_, ⟨hv', h1⟩, rfl⟩)⟩
  show R.length - (i + 1) < R.length - i
  omega
def sTl (R : List (List D)) (sp : List (List D)) (at' : Int) (id : Int) (lk : Bool) : LSum := fun Q x => x.arr [0, 1, 2, 3, 9, 11, 12, 13] [10, 34000, 34001, 34002, 34003, 12, 13] = sfT R sp at' id lk [] (fun _ => false) 0 ∧ ∀ (l : List (List Int)) (f : Nat → Bool) (i : Int), InvT l f → Q (.exit 0) (sfT R sp at' id lk l f i)
theorem okT {R sp : List (List D)} {at' id : Int} {lk : Bool} (hR : okZ 1 R = true) (Q : Exit → X → Prop) (x : X) (h : sTl R sp at' id lk Q x) : XWP Try.prog (.loop (bodyL Try.f12 0)) Q x := by
  obtain ⟨h1, h2'⟩ := h
  have h0 : InvT [] (fun _ => false) := ⟨⟨rfl, fun j _ => rfl, rfl, fun r hr => by cases hr⟩, fun r hr => by cases hr⟩
  refine xwp_roundV (ι := (List (List Int) × (Nat → Bool)) × Nat) (fn := Try.f12) (i := 0) [] (ts := [0, 1, 2, 3, 9, 11, 12, 13]) (ks := [10, 34000, 34001, 34002, 34003, 12, 13]) mixed
    (fun p => sfT R sp at' id lk p.1.1 p.1.2 p.2) (fun p => InvT p.1.1 p.1.2 ∧ p.2 ≤ R.length) (fun p => R.length - p.2) (([], fun _ => false), 0) (v_stT R sp at' id lk) (fun _ => v_stT R sp at' id lk) (v_stT_ok R sp at' id lk) (fun _ => v_stT_ok R sp at' id lk) (fun p hp => ?_) ⟨h0, Nat.zero_le _⟩ h1
  obtain ⟨⟨l, f⟩, i⟩ := p
  obtain ⟨hf, hi⟩ := hp
  dsimp only at hf hi ⊢
  by_cases h1 : i < R.length
  · by_cases h2 : i < 8
    · have hb := mask4 (hdJ (R.getD i []))
      have hk : band (hdJ (R.getD i [])) 15 = 0 ∨ band (hdJ (R.getD i [])) 15 = 1 ∨ band (hdJ (R.getD i [])) 15 = 2 ∨ band (hdJ (R.getD i [])) 15 = 3 ∨ band (hdJ (R.getD i [])) 15 = 4 ∨ band (hdJ (R.getD i [])) 15 = 5 ∨ band (hdJ (R.getD i [])) 15 = 6 ∨ band (hdJ (R.getD i [])) 15 = 7 ∨ band (hdJ (R.getD i [])) 15 = 8 ∨ band (hdJ (R.getD i [])) 15 = 9 ∨ band (hdJ (R.getD i [])) 15 = 10 ∨ band (hdJ (R.getD i [])) 15 = 11 ∨ band (hdJ (R.getD i [])) 15 = 12 ∨ band (hdJ (R.getD i [])) 15 = 13 ∨ band (hdJ (R.getD i [])) 15 = 14 ∨ band (hdJ (R.getD i [])) 15 = 15 := by omega
      rcases hk with hk | hk | hk | hk | hk | hk | hk | hk | hk | hk | hk | hk | hk | hk | hk | hk
      · exact xT_0 hR hf h1 h2 hk
      · exact xT_1 hR hf h1 h2 hk
      · exact xT_2 hR hf h1 h2 hk
      · exact xT_3 hR hf h1 h2 hk
      · exact xT_4 hR hf h1 h2 hk
      · exact xT_5 hR hf h1 h2 hk
      · exact xT_6 hR hf h1 h2 hk
      · exact xT_7 hR hf h1 h2 hk
      · exact xT_8 hR hf h1 h2 hk
      · exact xT_9 hR hf h1 h2 hk
      · exact xT_10 hR hf h1 h2 hk
      · exact xT_11 hR hf h1 h2 hk
      · exact xT_12 hR hf h1 h2 hk
      · exact xT_13 hR hf h1 h2 hk
      · exact xT_14 hR hf h1 h2 hk
      · exact xT_15 hR hf h1 h2 hk
    · refine ⟨_, gKm_ok (m := []) [(51, 0), (60, 0)] .nil, loops_nil rfl, ?_⟩
      unfold sfT
      rw [rT_0]
      have h3 : ¬ ((i : Int) < 8) := by omega
      simp only [Int.ofNat_lt, h1, h3, decide_true, decide_false, cond_true, cond_false, true_and]
      exact h2' l f i hf
  · refine ⟨_, gKm_ok (m := []) [(51, 0), (60, 0)] .nil, loops_nil rfl, ?_⟩
    unfold sfT
    rw [rT_0]
    simp only [Int.ofNat_lt, h1, decide_false, cond_false, true_and]
    exact h2' l f i hf
end Vm