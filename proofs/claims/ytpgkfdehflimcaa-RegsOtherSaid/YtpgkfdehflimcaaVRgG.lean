/- What the functions of this text do, told by an interpreter that is proved right (YtpgkfdehflimcaaVA to VD). My own work. -/
import Derived.Test.YtpgkfdehflimcaaVRgC
namespace Vm
open Go Go.Proofs
set_option linter.unusedSimpArgs false
set_option linter.unusedVariables false
theorem c10 (a b c d i v j : Int) : CT Try.prog 10 [.agg [vi a, vi b, vi c, vi d], I i, I v, I j] (B true) := by
  have hg1 : band i 3 = 0 ∨ band i 3 = 1 ∨ band i 3 = 2 ∨ band i 3 = 3 := by rw [mask2]; omega
  have hg2 : band j 3 = 0 ∨ band j 3 = 1 ∨ band j 3 = 2 ∨ band j 3 = 3 := by rw [mask2]; omega
  have hvv : val8 (band v 255) = true := val8_of (by rw [mask8]; omega)
  have m1 : band 1 3 = 1 := rfl
  have m2 : band 2 3 = 2 := rfl
  have m3 : band 3 3 = 3 := rfl
  have m4 : band 4 3 = 0 := rfl
  have z8 : val8 0 = true := rfl
  have w1 : IntKind.wrap .i64 (0 + 1) = 1 := rfl
  have w2 : IntKind.wrap .i64 (1 + 1) = 2 := rfl
  have w3 : IntKind.wrap .i64 (2 + 1) = 3 := rfl
  have w4 : IntKind.wrap .i64 (3 + 1) = 4 := rfl
  have k00 : band i 3 = 0 → band j 3 = 0 → CT Try.prog 10 [.agg [vi a, vi b, vi c, vi d], I i, I v, I j] (B true) := fun h1 h2 => by
    refine ct_askK [(22, 0), (24, 0), (65, 1)] (l := [(25, sF setR), (27, sF addR), (23, sI), (29, sT)]) (.cons (by rw [sF_set]; exact o25) (.cons (by rw [sF_add]; exact o27) (.cons o23 (.cons o29 .nil)))) mixed Try.func10 rfl rfl rfl ?_
    rw [e10_00]
    generalize band v 255 = w at *
    cases hv : v4 a b c d with
    | false => simp [h1, h2, setR, hv, eqI]
    | true =>
      obtain ⟨ha, hb, hc, hd⟩ := v4_of hv
      have ba := val8_le ha
      have bb := val8_le hb
      have bc := val8_le hc
      have bd := val8_le hd
      have bw := val8_le hvv
      have ea : a % 256 = a := by omega
      have eb : b % 256 = b := by omega
      have ec : c % 256 = c := by omega
      have ed : d % 256 = d := by omega
      have ew : w % 256 = w := by omega
      simp [h1, h2, setR, addR, putR, getR, v4, ha, hb, hc, hd, hvv, z8, lab0, lab1, lab2, lab3, eqI, m1, m2, m3, m4, w1, w2, w3, w4, ea, eb, ec, ed, ew]
  have k01 : band i 3 = 0 → band j 3 = 1 → CT Try.prog 10 [.agg [vi a, vi b, vi c, vi d], I i, I v, I j] (B true) := fun h1 h2 => by
    refine ct_askK [(22, 0), (24, 1), (65, 2)] (l := [(25, sF setR), (27, sF addR), (23, sI), (29, sT)]) (.cons (by rw [sF_set]; exact o25) (.cons (by rw [sF_add]; exact o27) (.cons o23 (.cons o29 .nil)))) mixed Try.func10 rfl rfl rfl ?_
    rw [e10_01]
    generalize band v 255 = w at *
    cases hv : v4 a b c d with
    | false => simp [h1, h2, setR, hv, eqI]
    | true =>
      obtain ⟨ha, hb, hc, hd⟩ := v4_of hv
      have ba := val8_le ha
      have bb := val8_le hb
      have bc := val8_le hc
      have bd := val8_le hd
      have bw := val8_le hvv
      have ea : a % 256 = a := by omega
      have eb : b % 256 = b := by omega
      have ec : c % 256 = c := by omega
      have ed : d % 256 = d := by omega
      have ew : w % 256 = w := by omega
      simp [h1, h2, setR, addR, putR, getR, v4, ha, hb, hc, hd, hvv, z8, lab0, lab1, lab2, lab3, eqI, m1, m2, m3, m4, w1, w2, w3, w4, ea, eb, ec, ed, ew]
  have k02 : band i 3 = 0 → band j 3 = 2 → CT Try.prog 10 [.agg [vi a, vi b, vi c, vi d], I i, I v, I j] (B true) := fun h1 h2 => by
    refine ct_askK [(22, 0), (24, 2), (65, 3)] (l := [(25, sF setR), (27, sF addR), (23, sI), (29, sT)]) (.cons (by rw [sF_set]; exact o25) (.cons (by rw [sF_add]; exact o27) (.cons o23 (.cons o29 .nil)))) mixed Try.func10 rfl rfl rfl ?_
    rw [e10_02]
    generalize band v 255 = w at *
    cases hv : v4 a b c d with
    | false => simp [h1, h2, setR, hv, eqI]
    | true =>
      obtain ⟨ha, hb, hc, hd⟩ := v4_of hv
      have ba := val8_le ha
      have bb := val8_le hb
      have bc := val8_le hc
      have bd := val8_le hd
      have bw := val8_le hvv
      have ea : a % 256 = a := by omega
      have eb : b % 256 = b := by omega
      have ec : c % 256 = c := by omega
      have ed : d % 256 = d := by omega
      have ew : w % 256 = w := by omega
      simp [h1, h2, setR, addR, putR, getR, v4, ha, hb, hc, hd, hvv, z8, lab0, lab1, lab2, lab3, eqI, m1, m2, m3, m4, w1, w2, w3, w4, ea, eb, ec, ed, ew]
  have k03 : band i 3 = 0 → band j 3 = 3 → CT Try.prog 10 [.agg [vi a, vi b, vi c, vi d], I i, I v, I j] (B true) := fun h1 h2 => by
    refine ct_askK [(22, 0), (24, 3), (65, 0)] (l := [(25, sF setR), (27, sF addR), (23, sI), (29, sT)]) (.cons (by rw [sF_set]; exact o25) (.cons (by rw [sF_add]; exact o27) (.cons o23 (.cons o29 .nil)))) mixed Try.func10 rfl rfl rfl ?_
    rw [e10_03]
    generalize band v 255 = w at *
    cases hv : v4 a b c d with
    | false => simp [h1, h2, setR, hv, eqI]
    | true =>
      obtain ⟨ha, hb, hc, hd⟩ := v4_of hv
      have ba := val8_le ha
      have bb := val8_le hb
      have bc := val8_le hc
      have bd := val8_le hd
      have bw := val8_le hvv
      have ea : a % 256 = a := by omega
      have eb : b % 256 = b := by omega
      have ec : c % 256 = c := by omega
      have ed : d % 256 = d := by omega
      have ew : w % 256 = w := by omega
      simp [h1, h2, setR, addR, putR, getR, v4, ha, hb, hc, hd, hvv, z8, lab0, lab1, lab2, lab3, eqI, m1, m2, m3, m4, w1, w2, w3, w4, ea, eb, ec, ed, ew]
  have k10 : band i 3 = 1 → band j 3 = 0 → CT Try.prog 10 [.agg [vi a, vi b, vi c, vi d], I i, I v, I j] (B true) := fun h1 h2 => by
    refine ct_askK [(22, 1), (24, 0), (65, 1)] (l := [(25, sF setR), (27, sF addR), (23, sI), (29, sT)]) (.cons (by rw [sF_set]; exact o25) (.cons (by rw [sF_add]; exact o27) (.cons o23 (.cons o29 .nil)))) mixed Try.func10 rfl rfl rfl ?_
    rw [e10_10]
    generalize band v 255 = w at *
    cases hv : v4 a b c d with
    | false => simp [h1, h2, setR, hv, eqI]
    | true =>
      obtain ⟨ha, hb, hc, hd⟩ := v4_of hv
      have ba := val8_le ha
      have bb := val8_le hb
      have bc := val8_le hc
      have bd := val8_le hd
      have bw := val8_le hvv
      have ea : a % 256 = a := by omega
      have eb : b % 256 = b := by omega
      have ec : c % 256 = c := by omega
      have ed : d % 256 = d := by omega
      have ew : w % 256 = w := by omega
      simp [h1, h2, setR, addR, putR, getR, v4, ha, hb, hc, hd, hvv, z8, lab0, lab1, lab2, lab3, eqI, m1, m2, m3, m4, w1, w2, w3, w4, ea, eb, ec, ed, ew]
  have k11 : band i 3 = 1 → band j 3 = 1 → CT Try.prog 10 [.agg [vi a, vi b, vi c, vi d], I i, I v, I j] (B true) := fun h1 h2 => by
    refine ct_askK [(22, 1), (24, 1), (65, 2)] (l := [(25, sF setR), (27, sF addR), (23, sI), (29, sT)]) (.cons (by rw [sF_set]; exact o25) (.cons (by rw [sF_add]; exact o27) (.cons o23 (.cons o29 .nil)))) mixed Try.func10 rfl rfl rfl ?_
    rw [e10_11]
    generalize band v 255 = w at *
    cases hv : v4 a b c d with
    | false => simp [h1, h2, setR, hv, eqI]
    | true =>
      obtain ⟨ha, hb, hc, hd⟩ := v4_of hv
      have ba := val8_le ha
      have bb := val8_le hb
      have bc := val8_le hc
      have bd := val8_le hd
      have bw := val8_le hvv
      have ea : a % 256 = a := by omega
      have eb : b % 256 = b := by omega
      have ec : c % 256 = c := by omega
      have ed : d % 256 = d := by omega
      have ew : w % 256 = w := by omega
      simp [h1, h2, setR, addR, putR, getR, v4, ha, hb, hc, hd, hvv, z8, lab0, lab1, lab2, lab3, eqI, m1, m2, m3, m4, w1, w2, w3, w4, ea, eb, ec, ed, ew]
  have k12 : band i 3 = 1 → band j 3 = 2 → CT Try.prog 10 [.agg [vi a, vi b, vi c, vi d], I i, I v, I j] (B true) := fun h1 h2 => by
    refine ct_askK [(22, 1), (24, 2), (65, 3)] (l := [(25, sF setR), (27, sF addR), (23, sI), (29, sT)]) (.cons (by rw [sF_set]; exact o25) (.cons (by rw [sF_add]; exact o27) (.cons o23 (.cons o29 .nil)))) mixed Try.func10 rfl rfl rfl ?_
    rw [e10_12]
    generalize band v 255 = w at *
    cases hv : v4 a b c d with
    | false => simp [h1, h2, setR, hv, eqI]
    | true =>
      obtain ⟨ha, hb, hc, hd⟩ := v4_of hv
      have ba := val8_le ha
      have bb := val8_le hb
      have bc := val8_le hc
      have bd := val8_le hd
      have bw := val8_le hvv
      have ea : a % 256 = a := by omega
      have eb : b % 256 = b := by omega
      have ec : c % 256 = c := by omega
      have ed : d % 256 = d := by omega
      have ew : w % 256 = w := by omega
      simp [h1, h2, setR, addR, putR, getR, v4, ha, hb, hc, hd, hvv, z8, lab0, lab1, lab2, lab3, eqI, m1, m2, m3, m4, w1, w2, w3, w4, ea, eb, ec, ed, ew]
  have k13 : band i 3 = 1 → band j 3 = 3 → CT Try.prog 10 [.agg [vi a, vi b, vi c, vi d], I i, I v, I j] (B true) := fun h1 h2 => by
    refine ct_askK [(22, 1), (24, 3), (65, 0)] (l := [(25, sF setR), (27, sF addR), (23, sI), (29, sT)]) (.cons (by rw [sF_set]; exact o25) (.cons (by rw [sF_add]; exact o27) (.cons o23 (.cons o29 .nil)))) mixed Try.func10 rfl rfl rfl ?_
    rw [e10_13]
    generalize band v 255 = w at *
    cases hv : v4 a b c d with
    | false => simp [h1, h2, setR, hv, eqI]
    | true =>
      obtain ⟨ha, hb, hc, hd⟩ := v4_of hv
      have ba := val8_le ha
      have bb := val8_le hb
      have bc := val8_le hc
      have bd := val8_le hd
      have bw := val8_le hvv
      have ea : a % 256 = a := by omega
      have eb : b % 256 = b := by omega
      have ec : c % 256 = c := by omega
      have ed : d % 256 = d := by omega
      have ew : w % 256 = w := by omega
      simp [h1, h2, setR, addR, putR, getR, v4, ha, hb, hc, hd, hvv, z8, lab0, lab1, lab2, lab3, eqI, m1, m2, m3, m4, w1, w2, w3, w4, ea, eb, ec, ed, ew]
  have k20 : band i 3 = 2 → band j 3 = 0 → CT Try.prog 10 [.agg [vi a, vi b, vi c, vi d], I i, I v, I j] (B true) := fun h1 h2 => by
    refine ct_askK [(22, 2), (24, 0), (65, 1)] (l := [(25, sF setR), (27, sF addR), (23, sI), (29, sT)]) (.cons (by rw [sF_set]; exact o25) (.cons (by rw [sF_add]; exact o27) (.cons o23 (.cons o29 .nil)))) mixed Try.func10 rfl rfl rfl ?_
    rw [e10_20]
    generalize band v 255 = w at *
    cases hv : v4 a b c d with
    | false => simp [h1, h2, setR, hv, eqI]
    | true =>
      obtain ⟨ha, hb, hc, hd⟩ := v4_of hv
      have ba := val8_le ha
      have bb := val8_le hb
      have bc := val8_le hc
      have bd := val8_le hd
      have bw := val8_le hvv
      have ea : a % 256 = a := by omega
      have eb : b % 256 = b := by omega
      have ec : c % 256 = c := by omega
      have ed : d % 256 = d := by omega
      have ew : w % 256 = w := by omega
      simp [h1, h2, setR, addR, putR, getR, v4, ha, hb, hc, hd, hvv, z8, lab0, lab1, lab2, lab3, eqI, m1, m2, m3, m4, w1, w2, w3, w4, ea, eb, ec, ed, ew]
  have k21 : band i 3 = 2 → band j 3 = 1 → CT Try.prog 10 [.agg [vi a, vi b, vi c, vi d], I i, I v, I j] (B true) := fun h1 h2 => by
    refine ct_askK [(22, 2), (24, 1), (65, 2)] (l := [(25, sF setR), (27, sF addR), (23, sI), (29, sT)]) (.cons (by rw [sF_set]; exact o25) (.cons (by rw [sF_add]; exact o27) (.cons o23 (.cons o29 .nil)))) mixed Try.func10 rfl rfl rfl ?_
    rw [e10_21]
    generalize band v 255 = w at *
    cases hv : v4 a b c d with
    | false => simp [h1, h2, setR, hv, eqI]
    | true =>
      obtain ⟨ha, hb, hc, hd⟩ := v4_of hv
      have ba := val8_le ha
      have bb := val8_le hb
      have bc := val8_le hc
      have bd := val8_le hd
      have bw := val8_le hvv
      have ea : a % 256 = a := by omega
      have eb : b % 256 = b := by omega
      have ec : c % 256 = c := by omega
      have ed : d % 256 = d := by omega
      have ew : w % 256 = w := by omega
      simp [h1, h2, setR, addR, putR, getR, v4, ha, hb, hc, hd, hvv, z8, lab0, lab1, lab2, lab3, eqI, m1, m2, m3, m4, w1, w2, w3, w4, ea, eb, ec, ed, ew]
  have k22 : band i 3 = 2 → band j 3 = 2 → CT Try.prog 10 [.agg [vi a, vi b, vi c, vi d], I i, I v, I j] (B true) := fun h1 h2 => by
    refine ct_askK [(22, 2), (24, 2), (65, 3)] (l := [(25, sF setR), (27, sF addR), (23, sI), (29, sT)]) (.cons (by rw [sF_set]; exact o25) (.cons (by rw [sF_add]; exact o27) (.cons o23 (.cons o29 .nil)))) mixed Try.func10 rfl rfl rfl ?_
    rw [e10_22]
    generalize band v 255 = w at *
    cases hv : v4 a b c d with
    | false => simp [h1, h2, setR, hv, eqI]
    | true =>
      obtain ⟨ha, hb, hc, hd⟩ := v4_of hv
      have ba := val8_le ha
      have bb := val8_le hb
      have bc := val8_le hc
      have bd := val8_le hd
      have bw := val8_le hvv
      have ea : a % 256 = a := by omega
      have eb : b % 256 = b := by omega
      have ec : c % 256 = c := by omega
      have ed : d % 256 = d := by omega
      have ew : w % 256 = w := by omega
      simp [h1, h2, setR, addR, putR, getR, v4, ha, hb, hc, hd, hvv, z8, lab0, lab1, lab2, lab3, eqI, m1, m2, m3, m4, w1, w2, w3, w4, ea, eb, ec, ed, ew]
  have k23 : band i 3 = 2 → band j 3 = 3 → CT Try.prog 10 [.agg [vi a, vi b, vi c, vi d], I i, I v, I j] (B true) := fun h1 h2 => by
    refine ct_askK [(22, 2), (24, 3), (65, 0)] (l := [(25, sF setR), (27, sF addR), (23, sI), (29, sT)]) (.cons (by rw [sF_set]; exact o25) (.cons (by rw [sF_add]; exact o27) (.cons o23 (.cons o29 .nil)))) mixed Try.func10 rfl rfl rfl ?_
    rw [e10_23]
    generalize band v 255 = w at *
    cases hv : v4 a b c d with
    | false => simp [h1, h2, setR, hv, eqI]
    | true =>
      obtain ⟨ha, hb, hc, hd⟩ := v4_of hv
      have ba := val8_le ha
      have bb := val8_le hb
      have bc := val8_le hc
      have bd := val8_le hd
      have bw := val8_le hvv
      have ea : a % 256 = a := by omega
      have eb : b % 256 = b := by omega
      have ec : c % 256 = c := by omega
      have ed : d % 256 = d := by omega
      have ew : w % 256 = w := by omega
      simp [h1, h2, setR, addR, putR, getR, v4, ha, hb, hc, hd, hvv, z8, lab0, lab1, lab2, lab3, eqI, m1, m2, m3, m4, w1, w2, w3, w4, ea, eb, ec, ed, ew]
  have k30 : band i 3 = 3 → band j 3 = 0 → CT Try.prog 10 [.agg [vi a, vi b, vi c, vi d], I i, I v, I j] (B true) := fun h1 h2 => by
    refine ct_askK [(22, 3), (24, 0), (65, 1)] (l := [(25, sF setR), (27, sF addR), (23, sI), (29, sT)]) (.cons (by rw [sF_set]; exact o25) (.cons (by rw [sF_add]; exact o27) (.cons o23 (.cons o29 .nil)))) mixed Try.func10 rfl rfl rfl ?_
    rw [e10_30]
    generalize band v 255 = w at *
    cases hv : v4 a b c d with
    | false => simp [h1, h2, setR, hv, eqI]
    | true =>
      obtain ⟨ha, hb, hc, hd⟩ := v4_of hv
      have ba := val8_le ha
      have bb := val8_le hb
      have bc := val8_le hc
      have bd := val8_le hd
      have bw := val8_le hvv
      have ea : a % 256 = a := by omega
      have eb : b % 256 = b := by omega
      have ec : c % 256 = c := by omega
      have ed : d % 256 = d := by omega
      have ew : w % 256 = w := by omega
      simp [h1, h2, setR, addR, putR, getR, v4, ha, hb, hc, hd, hvv, z8, lab0, lab1, lab2, lab3, eqI, m1, m2, m3, m4, w1, w2, w3, w4, ea, eb, ec, ed, ew]
  have k31 : band i 3 = 3 → band j 3 = 1 → CT Try.prog 10 [.agg [vi a, vi b, vi c, vi d], I i, I v, I j] (B true) := fun h1 h2 => by
    refine ct_askK [(22, 3), (24, 1), (65, 2)] (l := [(25, sF setR), (27, sF addR), (23, sI), (29, sT)]) (.cons (by rw [sF_set]; exact o25) (.cons (by rw [sF_add]; exact o27) (.cons o23 (.cons o29 .nil)))) mixed Try.func10 rfl rfl rfl ?_
    rw [e10_31]
    generalize band v 255 = w at *
    cases hv : v4 a b c d with
    | false => simp [h1, h2, setR, hv, eqI]
    | true =>
      obtain ⟨ha, hb, hc, hd⟩ := v4_of hv
      have ba := val8_le ha
      have bb := val8_le hb
      have bc := val8_le hc
      have bd := val8_le hd
      have bw := val8_le hvv
      have ea : a % 256 = a := by omega
      have eb : b % 256 = b := by omega
      have ec : c % 256 = c := by omega
      have ed : d % 256 = d := by omega
      have ew : w % 256 = w := by omega
      simp [h1, h2, setR, addR, putR, getR, v4, ha, hb, hc, hd, hvv, z8, lab0, lab1, lab2, lab3, eqI, m1, m2, m3, m4, w1, w2, w3, w4, ea, eb, ec, ed, ew]
  have k32 : band i 3 = 3 → band j 3 = 2 → CT Try.prog 10 [.agg [vi a, vi b, vi c, vi d], I i, I v, I j] (B true) := fun h1 h2 => by
    refine ct_askK [(22, 3), (24, 2), (65, 3)] (l := [(25, sF setR), (27, sF addR), (23, sI), (29, sT)]) (.cons (by rw [sF_set]; exact o25) (.cons (by rw [sF_add]; exact o27) (.cons o23 (.cons o29 .nil)))) mixed Try.func10 rfl rfl rfl ?_
    rw [e10_32]
    generalize band v 255 = w at *
    cases hv : v4 a b c d with
    | false => simp [h1, h2, setR, hv, eqI]
    | true =>
      obtain ⟨ha, hb, hc, hd⟩ := v4_of hv
      have ba := val8_le ha
      have bb := val8_le hb
      have bc := val8_le hc
      have bd := val8_le hd
      have bw := val8_le hvv
      have ea : a % 256 = a := by omega
      have eb : b % 256 = b := by omega
      have ec : c % 256 = c := by omega
      have ed : d % 256 = d := by omega
      have ew : w % 256 = w := by omega
      simp [h1, h2, setR, addR, putR, getR, v4, ha, hb, hc, hd, hvv, z8, lab0, lab1, lab2, lab3, eqI, m1, m2, m3, m4, w1, w2, w3, w4, ea, eb, ec, ed, ew]
  have k33 : band i 3 = 3 → band j 3 = 3 → CT Try.prog 10 [.agg [vi a, vi b, vi c, vi d], I i, I v, I j] (B true) := fun h1 h2 => by
    refine ct_askK [(22, 3), (24, 3), (65, 0)] (l := [(25, sF setR), (27, sF addR), (23, sI), (29, sT)]) (.cons (by rw [sF_set]; exact o25) (.cons (by rw [sF_add]; exact o27) (.cons o23 (.cons o29 .nil)))) mixed Try.func10 rfl rfl rfl ?_
    rw [e10_33]
    generalize band v 255 = w at *
    cases hv : v4 a b c d with
    | false => simp [h1, h2, setR, hv, eqI]
    | true =>
      obtain ⟨ha, hb, hc, hd⟩ := v4_of hv
      have ba := val8_le ha
      have bb := val8_le hb
      have bc := val8_le hc
      have bd := val8_le hd
      have bw := val8_le hvv
      have ea : a % 256 = a := by omega
      have eb : b % 256 = b := by omega
      have ec : c % 256 = c := by omega
      have ed : d % 256 = d := by omega
      have ew : w % 256 = w := by omega
      simp [h1, h2, setR, addR, putR, getR, v4, ha, hb, hc, hd, hvv, z8, lab0, lab1, lab2, lab3, eqI, m1, m2, m3, m4, w1, w2, w3, w4, ea, eb, ec, ed, ew]
  rcases hg1 with h1 | h1 | h1 | h1 <;> rcases hg2 with h2 | h2 | h2 | h2
  · exact k00 h1 h2
  · exact k01 h1 h2
  · exact k02 h1 h2
  · exact k03 h1 h2
  · exact k10 h1 h2
  · exact k11 h1 h2
  · exact k12 h1 h2
  · exact k13 h1 h2
  · exact k20 h1 h2
  · exact k21 h1 h2
  · exact k22 h1 h2
  · exact k23 h1 h2
  · exact k30 h1 h2
  · exact k31 h1 h2
  · exact k32 h1 h2
  · exact k33 h1 h2
end Vm
