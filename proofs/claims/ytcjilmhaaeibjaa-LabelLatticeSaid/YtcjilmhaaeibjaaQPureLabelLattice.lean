/- Proved: LabelLattice answers true for every three numbers. No condition. -/
import Derived.Test.YtcjilmhaaeibjaaQLabelLatticex1
import Derived.Laws.BitsLemmas
namespace Go.Proofs.Ytcjilmhaaeibjaa.Pure
open Go Go.RowKit Go.Proofs.Ytcjilmhaaeibjaa.PLabelLattice Go.Proofs.YtcjilmhaaeibjaaW.PrintWords Go.Proofs.YtcjilmhaaeibjaaW.PrintLast

-- BEGIN
theorem mask_i64 (m : Int) (j : Nat) (hj : j < 63) (hm : (BitVec.ofInt 64 m).toNat = 2 ^ j - 1) (n : Int) : bits .and .i64 n m = n % 2 ^ j := by
  have hp : 2 ^ j ≤ 2 ^ 62 := Nat.pow_le_pow_right (by decide) (by omega)
  have hd : (2 ^ j : Nat) ∣ 2 ^ 64 := Nat.pow_dvd_pow 2 (by omega)
  have key : (BitVec.ofInt 64 n &&& BitVec.ofInt 64 m).toNat = (n % ((2 ^ 64 : Nat) : Int)).toNat % 2 ^ j := by
    rw [BitVec.toNat_and, BitVec.toNat_ofInt, hm, Nat.and_two_pow_sub_one_eq_mod]
  show IntKind.i64.wrap ((BitVec.ofInt 64 n &&& BitVec.ofInt 64 m).toNat : Nat) = n % 2 ^ j
  have hpos : (0 : Int) < 2 ^ j := by exact_mod_cast Nat.two_pow_pos j
  have h2 : ((n % ((2 ^ 64 : Nat) : Int)).toNat % 2 ^ j : Nat) = (n % (2 ^ j : Int)).toNat := by
    apply Int.natCast_inj.mp
    have h0 : (0 : Int) ≤ n % ((2 ^ 64 : Nat) : Int) := Int.emod_nonneg _ (by decide)
    have h0' : (0 : Int) ≤ n % (2 ^ j : Int) := Int.emod_nonneg _ (by omega)
    rw [Int.toNat_of_nonneg h0', Int.natCast_emod, Int.toNat_of_nonneg h0]
    have : ((2 ^ j : Nat) : Int) = (2 : Int) ^ j := by exact_mod_cast rfl
    rw [this, Int.emod_emod_of_dvd _ (by rw [← this]; exact_mod_cast hd)]
  rw [key, h2, IntKind.wrap_i64]
  have h3 := Int.emod_nonneg n (by omega : (2 : Int) ^ j ≠ 0)
  have h4 := Int.emod_lt_of_pos n hpos
  have h5 : (2 : Int) ^ j ≤ 2 ^ 62 := by exact_mod_cast hp
  rw [Int.toNat_of_nonneg h3]
  omega
theorem mask1 (n : Int) : bits .and .i64 n 1 = n % 2 := mask_i64 1 1 (by decide) (by decide) n
theorem mask2 (n : Int) : bits .and .i64 n 3 = n % 4 := mask_i64 3 2 (by decide) (by decide) n
theorem mask10 (n : Int) : bits .and .i64 n 1023 = n % 1024 := mask_i64 1023 10 (by decide) (by decide) n
theorem mask16 (n : Int) : bits .and .i64 n 65535 = n % 65536 := mask_i64 65535 16 (by decide) (by decide) n
theorem LabelLattice : veillaw1_LabelLattice.Pure := by
  intro a b c _ _ _
  unfold veillaw1_LabelLattice.f
  simp only [mask2]
  have four : ∀ n : Int, n % 4 = 0 ∨ n % 4 = 1 ∨ n % 4 = 2 ∨ n % 4 = 3 := fun n => by omega
  rcases four a with h1 | h1 | h1 | h1 <;> rcases four b with h2 | h2 | h2 | h2 <;> rcases four c with h3 | h3 | h3 | h3 <;> rw [h1, h2, h3] <;> rfl

end Go.Proofs.Ytcjilmhaaeibjaa.Pure
