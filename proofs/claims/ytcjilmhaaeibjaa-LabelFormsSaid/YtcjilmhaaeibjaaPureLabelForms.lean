/- Proved: LabelForms answers true for every two numbers. No condition. -/
import Derived.Test.YtcjilmhaaeibjaaPLabelFormsx1
import Derived.Laws.BitsLemmas
namespace Go.Proofs.Ytcjilmhaaeibjaa.Pure
open Go Go.RowKit Go.Proofs.Ytcjilmhaaeibjaa.PLabelForms Go.Proofs.YtcjilmhaaeibjaaW.PrintWords Go.Proofs.YtcjilmhaaeibjaaW.PrintLast

-- BEGIN
theorem mask_i64 (m : Int) (j : Nat) (hj : j < 63) (hm : (BitVec.ofInt 64 m).toNat = 2 ^ j - 1) (n : Int) : bits .and .i64 n m = n % 2 ^ j := by
  have hp : 2 ^ j ≤ 2 ^ 62 := Nat.pow_le_pow_right (by decide) (by omega)
  have hd : (2 ^ j : Nat) ∣ 2 ^ 64 := Nat.pow_dvd_pow 2 (by omega)
  have key : (BitVec.ofInt 64 n &&& BitVec.ofInt 64 m).toNat = (n % ((2 ^ 64 : Nat) : Int)).toNat % 2 ^ j := by
    rw [BitVec.toNat_and, BitVec.toNat_ofInt, hm, Nat.and_two_pow_sub_one_eq_mod]
  show IntKind.i64.wrap ((BitVec.ofInt 64 n &&& BitVec.ofInt 64 m).toNat : Nat) = n % 2 ^ j
  have hpos : (0 : Int) < 2 ^ j := by exact_mod_cast Nat.two_pow_pos j
  have h2 : ((n % ((2 ^ 64 : Nat) : Int)).toNat % 2 ^ j : Nat) = (n % (2 ^ j : Int)).toNat := by
    apply Int.natCast_inj.mp
    have h0 : (0 : Int) ≤ n % ((2 ^ 64 : Nat) : Int) := Int.emod_nonneg _ (by decide)
    have h0' : (0 : Int) ≤ n % (2 ^ j : Int) := Int.emod_nonneg _ (by omega)
    rw [Int.toNat_of_nonneg h0', Int.natCast_emod, Int.toNat_of_nonneg h0]
    have : ((2 ^ j : Nat) : Int) = (2 : Int) ^ j := by exact_mod_cast rfl
    rw [this, Int.emod_emod_of_dvd _ (by rw [← this]; exact_mod_cast hd)]
  rw [key, h2, IntKind.wrap_i64]
  have h3 := Int.emod_nonneg n (by omega : (2 : Int) ^ j ≠ 0)
  have h4 := Int.emod_lt_of_pos n hpos
  have h5 : (2 : Int) ^ j ≤ 2 ^ 62 := by exact_mod_cast hp
  rw [Int.toNat_of_nonneg h3]
  omega
theorem mask1 (n : Int) : bits .and .i64 n 1 = n % 2 := mask_i64 1 1 (by decide) (by decide) n
theorem mask2 (n : Int) : bits .and .i64 n 3 = n % 4 := mask_i64 3 2 (by decide) (by decide) n
theorem mask10 (n : Int) : bits .and .i64 n 1023 = n % 1024 := mask_i64 1023 10 (by decide) (by decide) n
theorem mask16 (n : Int) : bits .and .i64 n 65535 = n % 65536 := mask_i64 65535 16 (by decide) (by decide) n
theorem LabelForms : veillaw1_LabelForms.Pure := by
  intro a x _ _
  have hw : veillaw1_awake.f = some true := rfl
  unfold veillaw1_LabelForms.f
  simp only [hw, mask1, mask10, Option.bind_some, if_true]
  have hx := Int.emod_nonneg x (show (1024 : Int) ≠ 0 by decide)
  have hy := Int.emod_lt_of_pos x (show (0 : Int) < 1024 by decide)
  generalize x % 1024 = d at hx hy
  have w1 : wrap64 (1 + d) = 1 + d := by unfold wrap64; omega
  have w2 : wrap64 (-(1 + d)) = -(1 + d) := by unfold wrap64; omega
  have w3 : wrap64 (3 + (1 + d)) = 3 + (1 + d) := by unfold wrap64; omega
  simp only [w1, w2, w3]
  have bad : ∀ y : Int, y < 0 ∨ 4 ≤ y → label_May.f y = some false := fun y hy => by
    unfold label_May.f
    by_cases h : y ≥ 0
    · rw [if_pos h, decide_eq_false (by omega)]
    · rw [if_neg h]
  have m0 : label_May.f 0 = some true := rfl
  have key : ∀ y : Int, label_May.f y = some false → label_Join.f y 0 = some (0, 100) ∧ label_Join.f 0 y = some (0, 100) ∧ label_Below.f y 3 = some (false, 100) ∧ label_Below.f 0 y = some (false, 100) := fun y hy => by
    unfold label_Join.f label_Below.f
    simp [hy, m0]
  have two : a % 2 = 0 ∨ a % 2 = 1 := by omega
  have r0 : rd [-(1 + d), 3 + (1 + d)] 0 = -(1 + d) := rfl
  have r1 : rd [-(1 + d), 3 + (1 + d)] 1 = 3 + (1 + d) := rfl
  rcases two with h | h <;> rw [h]
  · have b := bad (-(1 + d)) (by omega)
    obtain ⟨k1, k2, k3, k4⟩ := key _ b
    simp [r0, b, k1, k2, k3, k4, veillaw0_Num.f]
  · have b := bad (3 + (1 + d)) (by omega)
    obtain ⟨k1, k2, k3, k4⟩ := key _ b
    simp [r1, b, k1, k2, k3, k4, veillaw0_Num.f]

end Go.Proofs.Ytcjilmhaaeibjaa.Pure
