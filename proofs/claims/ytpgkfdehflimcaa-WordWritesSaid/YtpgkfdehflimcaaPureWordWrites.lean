/- Proved: WordWrites answers true for every word and numbers. No condition. -/
import Derived.Test.YtpgkfdehflimcaaQWordWritesx2
import Derived.Laws.BitsLemmas
namespace Go.Proofs.Ytpgkfdehflimcaa.Pure
open Go Go.RowKit Go.Proofs.Ytpgkfdehflimcaa.PWordWrites Go.Proofs.YtpgkfdehflimcaaW.PrintWords Go.Proofs.YtpgkfdehflimcaaW.PrintLast
set_option linter.unusedSimpArgs false

theorem Num (x : Int) : veillaw0_Num.f x = some x := rfl
theorem In (a m : Int) : word_in.f a m = some (decide (0 ≤ a ∧ a ≤ m)) := by
  unfold word_in.f
  by_cases h : a ≥ 0
  · rw [if_pos h]; congr 2; apply propext; omega
  · rw [if_neg h]; congr 1; simp; omega
def okW (a b c : Int) : Prop := (0 ≤ a ∧ a ≤ 255) ∧ (0 ≤ b ∧ b ≤ 65535) ∧ 0 ≤ c ∧ c ≤ 255
instance (a b c : Int) : Decidable (okW a b c) := by unfold okW; infer_instance
theorem May (a b c : Int) : word_May.f a b c = some (decide (okW a b c)) := by
  unfold word_May.f word_Value.f word_Clock.f okW
  simp only [In, Option.bind_some]
  by_cases ha : 0 ≤ a ∧ a ≤ 255 <;> by_cases hb : 0 ≤ b ∧ b ≤ 65535 <;> simp [ha, hb]
theorem Lock (k : Nat) (a b c i : Int) : word_Lock.f (k + 1) a b c i = some (if okW a b c ∧ 0 ≤ i ∧ i ≤ 254 then (if c = 0 then (a, b, i + 1, 0) else (0, 0, 0, 301)) else (0, 0, 0, 300)) := by
  unfold word_Lock.f word_Id.f
  simp only [May, In, Option.bind_some]
  by_cases h : okW a b c
  · by_cases hi : 0 ≤ i ∧ i ≤ 254
    · have hw : wrap64 (i + 1) = i + 1 := by unfold wrap64; omega
      simp only [h, hi, decide_true, if_true, word_Lock.j0, Bool.not_true, Bool.false_eq_true, if_false, hw, and_self]
      by_cases hc : c = 0 <;> simp [hc]
    · simp [h, hi, word_Lock.j0]
  · simp [h, word_Lock.j0]
theorem Free (a b c : Int) : word_Free.f a b c = some (if okW a b c then (a, b, 0, 0) else (0, 0, 0, 300)) := by
  unfold word_Free.f
  rw [May]
  by_cases h : okW a b c <;> simp [h]
theorem Write (a b c v t : Int) : word_Write.f a b c v t = some (if okW a b c ∧ okW v t 0 then (v, t, 0, 0) else (0, 0, 0, 300)) := by
  unfold word_Write.f
  rw [May, May]
  by_cases h : okW a b c <;> by_cases h' : okW v t 0 <;> simp [h, h']
theorem awake (k : Nat) (hk : 5 ≤ k) : veillaw3_awake.f k = some true := by
  obtain ⟨k, rfl⟩ : ∃ m, k = m + 1 := ⟨k - 1, by omega⟩
  unfold veillaw3_awake.f
  simp only [Lock, Free, Write, May, Num, Option.bind_some]
  decide +kernel

theorem mask_i64 (m : Int) (j : Nat) (hj : j < 63) (hm : (BitVec.ofInt 64 m).toNat = 2 ^ j - 1) (n : Int) : bits .and .i64 n m = n % 2 ^ j := by
  have hp : 2 ^ j ≤ 2 ^ 62 := Nat.pow_le_pow_right (by decide) (by omega)
  have hd : (2 ^ j : Nat) ∣ 2 ^ 64 := Nat.pow_dvd_pow 2 (by omega)
  have key : (BitVec.ofInt 64 n &&& BitVec.ofInt 64 m).toNat = (n % ((2 ^ 64 : Nat) : Int)).toNat % 2 ^ j := by
    rw [BitVec.toNat_and, BitVec.toNat_ofInt, hm, Nat.and_two_pow_sub_one_eq_mod]
  show IntKind.i64.wrap ((BitVec.ofInt 64 n &&& BitVec.ofInt 64 m).toNat : Nat) = n % 2 ^ j
  have hpos : (0 : Int) < 2 ^ j := by exact_mod_cast Nat.two_pow_pos j
  have h2 : ((n % ((2 ^ 64 : Nat) : Int)).toNat % 2 ^ j : Nat) = (n % (2 ^ j : Int)).toNat := by
    apply Int.natCast_inj.mp
    have h0 : (0 : Int) ≤ n % ((2 ^ 64 : Nat) : Int) := Int.emod_nonneg _ (by decide)
    have h0' : (0 : Int) ≤ n % (2 ^ j : Int) := Int.emod_nonneg _ (by omega)
    rw [Int.toNat_of_nonneg h0', Int.natCast_emod, Int.toNat_of_nonneg h0]
    have : ((2 ^ j : Nat) : Int) = (2 : Int) ^ j := by exact_mod_cast rfl
    rw [this, Int.emod_emod_of_dvd _ (by rw [← this]; exact_mod_cast hd)]
  rw [key, h2, IntKind.wrap_i64]
  have h3 := Int.emod_nonneg n (by omega : (2 : Int) ^ j ≠ 0)
  have h4 := Int.emod_lt_of_pos n hpos
  have h5 : (2 : Int) ^ j ≤ 2 ^ 62 := by exact_mod_cast hp
  rw [Int.toNat_of_nonneg h3]
  omega
theorem mask1 (n : Int) : bits .and .i64 n 1 = n % 2 := mask_i64 1 1 (by decide) (by decide) n
theorem mask2 (n : Int) : bits .and .i64 n 3 = n % 4 := mask_i64 3 2 (by decide) (by decide) n
theorem mask7 (n : Int) : bits .and .i64 n 127 = n % 128 := mask_i64 127 7 (by decide) (by decide) n
theorem mask8 (n : Int) : bits .and .i64 n 255 = n % 256 := mask_i64 255 8 (by decide) (by decide) n
theorem mask10 (n : Int) : bits .and .i64 n 1023 = n % 1024 := mask_i64 1023 10 (by decide) (by decide) n
theorem mask16 (n : Int) : bits .and .i64 n 65535 = n % 65536 := mask_i64 65535 16 (by decide) (by decide) n

theorem WordWrites (a b c i v t : Int) (_ : (Lit.int .i64 a).wf = true) (_ : (Lit.int .i64 b).wf = true) (_ : (Lit.int .i64 c).wf = true) (_ : (Lit.int .i64 i).wf = true) (_ : (Lit.int .i64 v).wf = true) (_ : (Lit.int .i64 t).wf = true) : ∃ k, veillaw3_WordWrites.f k a b c i v t = some true := by
  refine ⟨9 + 1, ?_⟩
  unfold veillaw3_WordWrites.f
  rw [awake _ (by omega)]
  simp only [Lock, Write, May, Num, Option.bind_some, if_true, mask7, mask8, mask16]
  have h1 := Int.emod_nonneg i (show (128 : Int) ≠ 0 by decide)
  have h2 := Int.emod_lt_of_pos i (show (0 : Int) < 128 by decide)
  have h3 := Int.emod_nonneg v (show (256 : Int) ≠ 0 by decide)
  have h4 := Int.emod_lt_of_pos v (show (0 : Int) < 256 by decide)
  have h5 := Int.emod_nonneg t (show (65536 : Int) ≠ 0 by decide)
  have h6 := Int.emod_lt_of_pos t (show (0 : Int) < 65536 by decide)
  generalize i % 128 = i at h1 h2
  generalize v % 256 = v at h3 h4
  generalize t % 65536 = t at h5 h6
  have hv : okW v t 0 := by unfold okW; omega
  have hv1 : okW v t (i + 1) := by unfold okW; omega
  have hi : 0 ≤ i ∧ i ≤ 254 := by omega
  by_cases h : okW a b c
  · simp [h, hv, hv1, hi]
  · simp [h]

end Go.Proofs.Ytpgkfdehflimcaa.Pure
