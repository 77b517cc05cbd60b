/- Proved: InstForms answers true for every two numbers. No condition. -/
import Derived.Test.YtidedfhlocodgaaPInstFormsx5
import Derived.Laws.BitsLemmas
namespace Go.Proofs.Ytidedfhlocodgaa.Pure
open Go Go.RowKit Go.Proofs.Ytidedfhlocodgaa.PInstForms Go.Proofs.YtidedfhlocodgaaW.PrintWords Go.Proofs.YtidedfhlocodgaaW.PrintLast
set_option linter.unusedSimpArgs false

-- BEGIN
theorem mask_i64 (m : Int) (j : Nat) (hj : j < 63) (hm : (BitVec.ofInt 64 m).toNat = 2 ^ j - 1) (n : Int) : bits .and .i64 n m = n % 2 ^ j := by
  have hp : 2 ^ j ≤ 2 ^ 62 := Nat.pow_le_pow_right (by decide) (by omega)
  have hd : (2 ^ j : Nat) ∣ 2 ^ 64 := Nat.pow_dvd_pow 2 (by omega)
  have key : (BitVec.ofInt 64 n &&& BitVec.ofInt 64 m).toNat = (n % ((2 ^ 64 : Nat) : Int)).toNat % 2 ^ j := by
    rw [BitVec.toNat_and, BitVec.toNat_ofInt, hm, Nat.and_two_pow_sub_one_eq_mod]
  show IntKind.i64.wrap ((BitVec.ofInt 64 n &&& BitVec.ofInt 64 m).toNat : Nat) = n % 2 ^ j
  have hpos : (0 : Int) < 2 ^ j := by exact_mod_cast Nat.two_pow_pos j
  have h2 : ((n % ((2 ^ 64 : Nat) : Int)).toNat % 2 ^ j : Nat) = (n % (2 ^ j : Int)).toNat := by
    apply Int.natCast_inj.mp
    have h0 : (0 : Int) ≤ n % ((2 ^ 64 : Nat) : Int) := Int.emod_nonneg _ (by decide)
    have h0' : (0 : Int) ≤ n % (2 ^ j : Int) := Int.emod_nonneg _ (by omega)
    rw [Int.toNat_of_nonneg h0', Int.natCast_emod, Int.toNat_of_nonneg h0]
    have : ((2 ^ j : Nat) : Int) = (2 : Int) ^ j := by exact_mod_cast rfl
    rw [this, Int.emod_emod_of_dvd _ (by rw [← this]; exact_mod_cast hd)]
  rw [key, h2, IntKind.wrap_i64]
  have h3 := Int.emod_nonneg n (by omega : (2 : Int) ^ j ≠ 0)
  have h4 := Int.emod_lt_of_pos n hpos
  have h5 : (2 : Int) ^ j ≤ 2 ^ 62 := by exact_mod_cast hp
  rw [Int.toNat_of_nonneg h3]
  omega
theorem mask1 (n : Int) : bits .and .i64 n 1 = n % 2 := mask_i64 1 1 (by decide) (by decide) n
theorem mask2 (n : Int) : bits .and .i64 n 3 = n % 4 := mask_i64 3 2 (by decide) (by decide) n
theorem mask3 (n : Int) : bits .and .i64 n 7 = n % 8 := mask_i64 7 3 (by decide) (by decide) n
theorem mask4 (n : Int) : bits .and .i64 n 15 = n % 16 := mask_i64 15 4 (by decide) (by decide) n
theorem mask10 (n : Int) : bits .and .i64 n 1023 = n % 1024 := mask_i64 1023 10 (by decide) (by decide) n
theorem mask16 (n : Int) : bits .and .i64 n 65535 = n % 65536 := mask_i64 65535 16 (by decide) (by decide) n
theorem Reg (b : Int) : regs_Reg.f b = some (decide (0 ≤ b ∧ b < 4)) := by
  unfold regs_Reg.f
  by_cases h : b ≥ 0
  · rw [if_pos h]; congr 1; simp; omega
  · rw [if_neg h]; congr 1; simp; omega
theorem Lab (b : Int) : label_May.f b = some (decide (0 ≤ b ∧ b < 4)) := by
  unfold label_May.f
  by_cases h : b ≥ 0
  · rw [if_pos h]; congr 1; simp; omega
  · rw [if_neg h]; congr 1; simp; omega
theorem Val (b : Int) : word_Value.f b = some (decide (0 ≤ b ∧ b ≤ 255)) := by
  unfold word_Value.f word_in.f
  by_cases h : b ≥ 0
  · rw [if_pos h]; simp; omega
  · rw [if_neg h]; simp; omega
def okP (a b c d : Int) : Prop := (a = 0 ∧ d = 0 ∧ (0 ≤ b ∧ b < 4) ∧ 0 ≤ c ∧ c ≤ 255) ∨ (a = 1 ∧ d = 0 ∧ (0 ≤ b ∧ b < 4) ∧ 0 ≤ c ∧ c < 4) ∨ ((a = 2 ∨ a = 3) ∧ (0 ≤ b ∧ b < 4) ∧ (0 ≤ c ∧ c < 4) ∧ 0 ≤ d ∧ d < 4) ∨ (a = 4 ∧ d = 0 ∧ (0 ≤ b ∧ b < 4) ∧ 0 ≤ c ∧ c ≤ 16) ∨ (a = 5 ∧ b = 0 ∧ c = 0 ∧ d = 0) ∨ (a = 6 ∧ c = 0 ∧ d = 0 ∧ 0 ≤ b ∧ b ≤ 255)
instance (a b c d : Int) : Decidable (okP a b c d) := by unfold okP; infer_instance
theorem May (k : Nat) (a b c d : Int) : inst_May.f (k + 3) a b c d = some (decide (okP a b c d)) := by
  unfold inst_May.f inst_names.f okP
  by_cases h0 : a = 0
  · subst h0
    simp [inst_names.j0, inst_names.j1, inst_May.j0, Reg, Lab, Val]
    by_cases hd : d = 0 <;> by_cases hb : 0 ≤ b ∧ b < 4 <;> simp [hd, hb] <;> (intros; omega)
  by_cases h1 : a = 1
  · subst h1
    simp [inst_names.j0, inst_names.j1, inst_May.j0, Reg, Lab, Val]
    by_cases hd : d = 0 <;> by_cases hb : 0 ≤ b ∧ b < 4 <;> simp [hd, hb] <;> (intros; omega)
  by_cases h2 : a = 2
  · subst h2
    simp [inst_names.j0, inst_names.j1, inst_May.j0, Reg, Lab, Val]
    by_cases hb : 0 ≤ b ∧ b < 4 <;> by_cases hc : 0 ≤ c ∧ c < 4 <;> by_cases hd : 0 ≤ d <;> simp [hd, hb, hc] <;> (intros; omega)
  by_cases h3 : a = 3
  · subst h3
    simp [inst_names.j0, inst_names.j1, inst_May.j0, Reg, Lab, Val]
    by_cases hb : 0 ≤ b ∧ b < 4 <;> by_cases hc : 0 ≤ c ∧ c < 4 <;> by_cases hd : 0 ≤ d <;> simp [hd, hb, hc] <;> (intros; omega)
  by_cases h4 : a = 4
  · subst h4
    simp [inst_names.j0, inst_names.j1, inst_May.j0, Reg, Lab, Val]
    by_cases hb : 0 ≤ b ∧ b < 4 <;> by_cases hc : 0 ≤ c <;> by_cases hd : d = 0 <;> simp [hd, hb, hc] <;> (intros; omega)
  by_cases h5 : a = 5
  · subst h5
    simp [inst_names.j0, inst_names.j1, inst_May.j0, Reg, Lab, Val]
    by_cases hb : b = 0 <;> by_cases hc : c = 0 <;> by_cases hd : d = 0 <;> simp [hd, hb, hc] <;> (intros; omega)
  by_cases h6 : a = 6
  · subst h6
    simp [inst_names.j0, inst_names.j1, inst_May.j0, Reg, Lab, Val]
    by_cases hc : c = 0 <;> by_cases hd : d = 0 <;> simp [hd, hc] <;> (intros; omega)
  · simp [inst_names.j0, inst_names.j1, inst_May.j0, Reg, Lab, Val, h0, h1, h2, h3, h4, h5, h6]

theorem put_bad (a b c d : Int) (h : ¬ okP a b c d) : inst_Put.f 30 a b c d = some ((⟨#[]⟩ : ByteArray), 700) := by
  unfold inst_Put.f
  rw [May 27]
  simp [h]
theorem InstForms : veillaw7_InstForms.Pure := by
  intro a0 a1 _ _
  refine ⟨30, ?_⟩
  unfold veillaw7_InstForms.f
  have ha : veillaw7_awake.f 30 = some true := by decide +kernel
  simp only [ha, Option.bind_some, if_true, mask4, mask3, mask10]
  have hd := Int.emod_nonneg a1 (show (1024 : Int) ≠ 0 by decide)
  have hd' := Int.emod_lt_of_pos a1 (show (0 : Int) < 1024 by decide)
  generalize a1 % 1024 = d at hd hd'
  have w1 : wrap64 (1 + d) = 1 + d := by unfold wrap64; omega
  have w2 : wrap64 (-(1 + d)) = -(1 + d) := by unfold wrap64; omega
  have w3 : wrap64 (6 + (1 + d)) = 7 + d := by unfold wrap64; omega
  have w4 : wrap64 (255 + (1 + d)) = 256 + d := by unfold wrap64; omega
  have w5 : wrap64 (16 + (1 + d)) = 17 + d := by unfold wrap64; omega
  simp only [w1, w2, w3, w4, w5]
  have hi := Int.emod_nonneg a0 (show (16 : Int) ≠ 0 by decide)
  have hi' := Int.emod_lt_of_pos a0 (show (0 : Int) < 16 by decide)
  have hj := Int.emod_nonneg (a0 / 16) (show (8 : Int) ≠ 0 by decide)
  have hj' := Int.emod_lt_of_pos (a0 / 16) (show (0 : Int) < 8 by decide)
  generalize a0 / 16 % 8 = j at hj hj'
  generalize a0 % 16 = i at hi hi'
  generalize hys : ([(⟨-(1 + d), 0, 0, 0⟩ : S23), (⟨7 + d, 0, 0, 0⟩ : S23), (⟨0, 4, 0, 0⟩ : S23), (⟨0, -(1 + d), 0, 0⟩ : S23), (⟨0, 0, 256 + d, 0⟩ : S23), (⟨0, 0, 0, 1⟩ : S23), (⟨1, 0, 4, 0⟩ : S23), (⟨2, 0, 4, 0⟩ : S23), (⟨2, 0, 0, 4⟩ : S23), (⟨3, 4, 0, 0⟩ : S23), (⟨4, 0, 17 + d, 0⟩ : S23), (⟨4, 0, 0, 1⟩ : S23), (⟨5, 0, 1, 0⟩ : S23), (⟨6, 256 + d, 0, 0⟩ : S23), (⟨6, 0, 1, 0⟩ : S23), (⟨1, 0, 0, 1 + d⟩ : S23)] : List S23) = ys
  have hl : (ys.length : Int) = 16 := by subst hys; rfl
  have bad : ¬ okP (rd_T23 ys i).f0 (rd_T23 ys i).f1 (rd_T23 ys i).f2 (rd_T23 ys i).f3 := by
    have h16 : i = 0 ∨ i = 1 ∨ i = 2 ∨ i = 3 ∨ i = 4 ∨ i = 5 ∨ i = 6 ∨ i = 7 ∨ i = 8 ∨ i = 9 ∨ i = 10 ∨ i = 11 ∨ i = 12 ∨ i = 13 ∨ i = 14 ∨ i = 15 := by omega
    subst hys
    rcases h16 with h | h | h | h | h | h | h | h | h | h | h | h | h | h | h | h <;> subst h <;> simp [rd_T23, okP] <;> omega
  rw [put_bad _ _ _ _ bad, May 27]
  simp only [bad, decide_false, Option.bind_some, hl, hi, hi', if_true, if_false]
  have h8 : j = 0 ∨ j = 1 ∨ j = 2 ∨ j = 3 ∨ j = 4 ∨ j = 5 ∨ j = 6 ∨ j = 7 := by omega
  rcases h8 with h | h | h | h | h | h | h | h <;> subst h <;> decide +kernel
end Go.Proofs.Ytidedfhlocodgaa.Pure
