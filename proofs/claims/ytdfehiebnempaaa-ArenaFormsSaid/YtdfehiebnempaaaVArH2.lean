/- What the functions of this text do, told by an interpreter that is proved right (YtdfehiebnempaaaVA to VD). My own work. -/
import Derived.Test.YtdfehiebnempaaaVArH1
namespace Vm
open Go Go.Proofs
set_option linter.unusedSimpArgs false
set_option linter.unusedVariables false
set_option maxRecDepth 100000
/-! ### ArenaForms -/
theorem e5_20 (an : Int → Int → Int) (wh x : Int) (K : DV → Prop) : (askK an [(31, 2), (43, 0), (69, 0), (83, 0), (97, 0)] Try.prog [(20, sNewB), (22, sGetB), (24, sPutB), (19, sACopy), (27, sI), (28, sAMay), (31, sT)] Try.f5 [I wh, I x] K) = (an (Int.fdiv wh (4)) (3) = 2 ∧ an wh (3) = 0 ∧ an wh (1) = 0 ∧ an wh (1) = 0 ∧ an wh (1) = 0 ∧ bif pe (gokA (toZ [[D.v (Value.int IntKind.i64 (1)), D.v (Value.int IntKind.i64 (0)), D.v (Value.int IntKind.i64 (0))]]) (toZ [[D.v (Value.int IntKind.i64 (2)), D.v (Value.int IntKind.i64 (0)), D.v (Value.int IntKind.i64 (0))]]) (toZ [[D.v (Value.int IntKind.i64 (3)), D.v (Value.int IntKind.i64 (0)), D.v (Value.int IntKind.i64 (0))]]) (toZ [[D.v (Value.int IntKind.i64 (4)), D.v (Value.int IntKind.i64 (0)), D.v (Value.int IntKind.i64 (0))]]) (IntKind.wrap IntKind.i64 (0 - IntKind.wrap IntKind.i64 (1 + an x (1023)))) (0)) == 400 then bif pe (gokA (toZ [[D.v (Value.int IntKind.i64 (1)), D.v (Value.int IntKind.i64 (0)), D.v (Value.int IntKind.i64 (0))]]) (toZ [[D.v (Value.int IntKind.i64 (2)), D.v (Value.int IntKind.i64 (0)), D.v (Value.int IntKind.i64 (0))]]) (toZ [[D.v (Value.int IntKind.i64 (3)), D.v (Value.int IntKind.i64 (0)), D.v (Value.int IntKind.i64 (0))]]) (toZ [[D.v (Value.int IntKind.i64 (4)), D.v (Value.int IntKind.i64 (0)), D.v (Value.int IntKind.i64 (0))]]) (2) (IntKind.wrap IntKind.i64 (0 - IntKind.wrap IntKind.i64 (1 + an x (1023))))) == 400 then bif pe (pokA (toZ [[D.v (Value.int IntKind.i64 (1)), D.v (Value.int IntKind.i64 (0)), D.v (Value.int IntKind.i64 (0))]]) (toZ [[D.v (Value.int IntKind.i64 (2)), D.v (Value.int IntKind.i64 (0)), D.v (Value.int IntKind.i64 (0))]]) (toZ [[D.v (Value.int IntKind.i64 (3)), D.v (Value.int IntKind.i64 (0)), D.v (Value.int IntKind.i64 (0))]]) (toZ [[D.v (Value.int IntKind.i64 (4)), D.v (Value.int IntKind.i64 (0)), D.v (Value.int IntKind.i64 (0))]]) (2) (IntKind.wrap IntKind.i64 (0 - IntKind.wrap IntKind.i64 (1 + an x (1023)))) (0) (0) (0)) == 400 then bif pe (pokA (toZ [[D.v (Value.int IntKind.i64 (1)), D.v (Value.int IntKind.i64 (0)), D.v (Value.int IntKind.i64 (0))]]) (toZ [[D.v (Value.int IntKind.i64 (2)), D.v (Value.int IntKind.i64 (0)), D.v (Value.int IntKind.i64 (0))]]) (toZ [[D.v (Value.int IntKind.i64 (3)), D.v (Value.int IntKind.i64 (0)), D.v (Value.int IntKind.i64 (0))]]) (toZ [[D.v (Value.int IntKind.i64 (4)), D.v (Value.int IntKind.i64 (0)), D.v (Value.int IntKind.i64 (0))]]) (2) (0) (IntKind.wrap IntKind.i64 (0 - IntKind.wrap IntKind.i64 (1 + an x (1023)))) (0) (0)) == 400 then bif !amay (toZ [[D.v (Value.int IntKind.i64 (1)), D.v (Value.int IntKind.i64 (0)), D.v (Value.int IntKind.i64 (0))]]) (toZ [[D.v (Value.int IntKind.i64 (2)), D.v (Value.int IntKind.i64 (0)), D.v (Value.int IntKind.i64 (0))]]) (toZ [[D.v (Value.int IntKind.i64 (3)), D.v (Value.int IntKind.i64 (0)), D.v (Value.int IntKind.i64 (IntKind.wrap IntKind.i64 (0 - IntKind.wrap IntKind.i64 (1 + an x (1023)))))]]) (toZ [[D.v (Value.int IntKind.i64 (4)), D.v (Value.int IntKind.i64 (0)), D.v (Value.int IntKind.i64 (0))]]) then K (DV.c (D.v (Value.bool (pe (gokA (toZ [[D.v (Value.int IntKind.i64 (1)), D.v (Value.int IntKind.i64 (0)), D.v (Value.int IntKind.i64 (0))]]) (toZ [[D.v (Value.int IntKind.i64 (2)), D.v (Value.int IntKind.i64 (0)), D.v (Value.int IntKind.i64 (0))]]) (toZ [[D.v (Value.int IntKind.i64 (3)), D.v (Value.int IntKind.i64 (0)), D.v (Value.int IntKind.i64 (IntKind.wrap IntKind.i64 (0 - IntKind.wrap IntKind.i64 (1 + an x (1023)))))]]) (toZ [[D.v (Value.int IntKind.i64 (4)), D.v (Value.int IntKind.i64 (0)), D.v (Value.int IntKind.i64 (0))]]) (0) (0)) == 400)))) else K (DV.c (D.v (Value.bool false))) else K (DV.c (D.v (Value.bool false))) else K (DV.c (D.v (Value.bool false))) else K (DV.c (D.v (Value.bool false))) else K (DV.c (D.v (Value.bool false)))) := by kernel_rfl
theorem t5_20 (wh x : Int) (h1 : band (Int.fdiv wh 4) 3 = 2) (h2 : band wh 3 = 0) (h3 : band wh 1 = 0) : CT Try.prog 5 [I wh, I x] (B true) := by
  refine ct_askK [(31, 2), (43, 0), (69, 0), (83, 0), (97, 0)] (l := [(20, sNewB), (22, sGetB), (24, sPutB), (19, sACopy), (27, sI), (28, sAMay), (31, sT)]) (.cons oNewB (.cons oGetB (.cons oPutB (.cons oLCopy (.cons oNum (.cons oAMay (.cons oAw .nil))))))) mixed Try.func5 rfl rfl rfl ?_
  rw [e5_20]
  refine ⟨h1, h2, h3, h3, h3, ?_⟩
  have hy : 0 ≤ band x 1023 ∧ band x 1023 ≤ 1023 := by rw [mask10]; omega
  generalize band x 1023 = y at *
  have w1 : IntKind.wrap .i64 (1 + y) = 1 + y := wrap_id (by omega) (by omega)
  have w2 : IntKind.wrap .i64 (0 - (1 + y)) = 0 - (1 + y) := wrap_id (by omega) (by omega)
  have w3 : IntKind.wrap .i64 (3 + (1 + y)) = 3 + (1 + y) := wrap_id (by omega) (by omega)
  have w4 : IntKind.wrap .i64 (255 + (1 + y)) = 255 + (1 + y) := wrap_id (by omega) (by omega)
  simp only [w1, w2, w3, w4]
  have a1 : val8 (0 - (1 + y)) = false := by unfold val8 upto; simp; omega
  have a2 : val8 (255 + (1 + y)) = false := by unfold val8 upto; simp; omega
  have a3 : upto (0 - (1 + y)) 0 255 = false := by unfold upto; simp; omega
  have a4 : lab (0 - (1 + y)) = false := by unfold lab upto; simp; omega
  have a5 : lab (3 + (1 + y)) = false := by unfold lab upto; simp; omega
  have a6 : ¬ (0 - (1 + y) ≥ 0) := by omega
  have a7 : ¬ (1 + y < 1) := by omega
  generalize 0 - (1 + y) = m at *
  generalize 3 + (1 + y) = n at *
  generalize 255 + (1 + y) = k at *
  generalize 1 + y = d at *
  have v1 : val8 1 = true := rfl
  have v2 : val8 2 = true := rfl
  have v3 : val8 3 = true := rfl
  have v4 : val8 4 = true := rfl
  have v0 : val8 0 = true := rfl
  have c0 : clk 0 = true := rfl
  have u0 : upto 0 0 255 = true := rfl
  simp [pe, gokA, pokA, nokA, amay, rowMay, badW, fx, idxF, wmayR, wmay, toZ, mW, mL, mZ, thr, dI, lab0, lab1, lab2, lab3, List.findIdx?_cons, a1, a2, a3, a4, a5, a6, a7, v0, v1, v2, v3, v4, c0, u0]
theorem e5_21 (an : Int → Int → Int) (wh x : Int) (K : DV → Prop) : (askK an [(31, 2), (43, 1), (69, 1), (83, 1), (97, 1)] Try.prog [(20, sNewB), (22, sGetB), (24, sPutB), (19, sACopy), (27, sI), (28, sAMay), (31, sT)] Try.f5 [I wh, I x] K) = (an (Int.fdiv wh (4)) (3) = 2 ∧ an wh (3) = 1 ∧ an wh (1) = 1 ∧ an wh (1) = 1 ∧ an wh (1) = 1 ∧ bif pe (nokA [] [] [[D.v (Value.int IntKind.i64 (IntKind.wrap IntKind.i64 (0 - IntKind.wrap IntKind.i64 (1 + an x (1023)))))]] []) == 400 then bif pe (gokA (toZ [[D.v (Value.int IntKind.i64 (1)), D.v (Value.int IntKind.i64 (0)), D.v (Value.int IntKind.i64 (0))]]) (toZ [[D.v (Value.int IntKind.i64 (2)), D.v (Value.int IntKind.i64 (0)), D.v (Value.int IntKind.i64 (0))]]) (toZ [[D.v (Value.int IntKind.i64 (3)), D.v (Value.int IntKind.i64 (0)), D.v (Value.int IntKind.i64 (0))]]) (toZ [[D.v (Value.int IntKind.i64 (4)), D.v (Value.int IntKind.i64 (0)), D.v (Value.int IntKind.i64 (0))]]) (IntKind.wrap IntKind.i64 (3 + IntKind.wrap IntKind.i64 (1 + an x (1023)))) (0)) == 400 then bif pe (gokA (toZ [[D.v (Value.int IntKind.i64 (1)), D.v (Value.int IntKind.i64 (0)), D.v (Value.int IntKind.i64 (0))]]) (toZ [[D.v (Value.int IntKind.i64 (2)), D.v (Value.int IntKind.i64 (0)), D.v (Value.int IntKind.i64 (0))]]) (toZ [[D.v (Value.int IntKind.i64 (3)), D.v (Value.int IntKind.i64 (0)), D.v (Value.int IntKind.i64 (0))]]) (toZ [[D.v (Value.int IntKind.i64 (4)), D.v (Value.int IntKind.i64 (0)), D.v (Value.int IntKind.i64 (0))]]) (2) (IntKind.wrap IntKind.i64 (1 + an x (1023)))) == 400 then bif pe (pokA (toZ [[D.v (Value.int IntKind.i64 (1)), D.v (Value.int IntKind.i64 (0)), D.v (Value.int IntKind.i64 (0))]]) (toZ [[D.v (Value.int IntKind.i64 (2)), D.v (Value.int IntKind.i64 (0)), D.v (Value.int IntKind.i64 (0))]]) (toZ [[D.v (Value.int IntKind.i64 (3)), D.v (Value.int IntKind.i64 (0)), D.v (Value.int IntKind.i64 (0))]]) (toZ [[D.v (Value.int IntKind.i64 (4)), D.v (Value.int IntKind.i64 (0)), D.v (Value.int IntKind.i64 (0))]]) (2) (IntKind.wrap IntKind.i64 (1 + an x (1023))) (0) (0) (0)) == 400 then bif pe (pokA (toZ [[D.v (Value.int IntKind.i64 (1)), D.v (Value.int IntKind.i64 (0)), D.v (Value.int IntKind.i64 (0))]]) (toZ [[D.v (Value.int IntKind.i64 (2)), D.v (Value.int IntKind.i64 (0)), D.v (Value.int IntKind.i64 (0))]]) (toZ [[D.v (Value.int IntKind.i64 (3)), D.v (Value.int IntKind.i64 (0)), D.v (Value.int IntKind.i64 (0))]]) (toZ [[D.v (Value.int IntKind.i64 (4)), D.v (Value.int IntKind.i64 (0)), D.v (Value.int IntKind.i64 (0))]]) (2) (0) (IntKind.wrap IntKind.i64 (0 - IntKind.wrap IntKind.i64 (1 + an x (1023)))) (0) (0)) == 400 then bif !amay (toZ [[D.v (Value.int IntKind.i64 (1)), D.v (Value.int IntKind.i64 (0)), D.v (Value.int IntKind.i64 (0))]]) (toZ [[D.v (Value.int IntKind.i64 (2)), D.v (Value.int IntKind.i64 (0)), D.v (Value.int IntKind.i64 (0))]]) (toZ [[D.v (Value.int IntKind.i64 (3)), D.v (Value.int IntKind.i64 (0)), D.v (Value.int IntKind.i64 (IntKind.wrap IntKind.i64 (0 - IntKind.wrap IntKind.i64 (1 + an x (1023)))))]]) (toZ [[D.v (Value.int IntKind.i64 (4)), D.v (Value.int IntKind.i64 (0)), D.v (Value.int IntKind.i64 (0))]]) then K (DV.c (D.v (Value.bool (pe (gokA (toZ [[D.v (Value.int IntKind.i64 (1)), D.v (Value.int IntKind.i64 (0)), D.v (Value.int IntKind.i64 (0))]]) (toZ [[D.v (Value.int IntKind.i64 (2)), D.v (Value.int IntKind.i64 (0)), D.v (Value.int IntKind.i64 (0))]]) (toZ [[D.v (Value.int IntKind.i64 (3)), D.v (Value.int IntKind.i64 (0)), D.v (Value.int IntKind.i64 (IntKind.wrap IntKind.i64 (0 - IntKind.wrap IntKind.i64 (1 + an x (1023)))))]]) (toZ [[D.v (Value.int IntKind.i64 (4)), D.v (Value.int IntKind.i64 (0)), D.v (Value.int IntKind.i64 (0))]]) (0) (0)) == 400)))) else K (DV.c (D.v (Value.bool false))) else K (DV.c (D.v (Value.bool false))) else K (DV.c (D.v (Value.bool false))) else K (DV.c (D.v (Value.bool false))) else K (DV.c (D.v (Value.bool false))) else K (DV.c (D.v (Value.bool false)))) := by kernel_rfl
theorem t5_21 (wh x : Int) (h1 : band (Int.fdiv wh 4) 3 = 2) (h2 : band wh 3 = 1) (h3 : band wh 1 = 1) : CT Try.prog 5 [I wh, I x] (B true) := by
  refine ct_askK [(31, 2), (43, 1), (69, 1), (83, 1), (97, 1)] (l := [(20, sNewB), (22, sGetB), (24, sPutB), (19, sACopy), (27, sI), (28, sAMay), (31, sT)]) (.cons oNewB (.cons oGetB (.cons oPutB (.cons oLCopy (.cons oNum (.cons oAMay (.cons oAw .nil))))))) mixed Try.func5 rfl rfl rfl ?_
  rw [e5_21]
  refine ⟨h1, h2, h3, h3, h3, ?_⟩
  have hy : 0 ≤ band x 1023 ∧ band x 1023 ≤ 1023 := by rw [mask10]; omega
  generalize band x 1023 = y at *
  have w1 : IntKind.wrap .i64 (1 + y) = 1 + y := wrap_id (by omega) (by omega)
  have w2 : IntKind.wrap .i64 (0 - (1 + y)) = 0 - (1 + y) := wrap_id (by omega) (by omega)
  have w3 : IntKind.wrap .i64 (3 + (1 + y)) = 3 + (1 + y) := wrap_id (by omega) (by omega)
  have w4 : IntKind.wrap .i64 (255 + (1 + y)) = 255 + (1 + y) := wrap_id (by omega) (by omega)
  simp only [w1, w2, w3, w4]
  have a1 : val8 (0 - (1 + y)) = false := by unfold val8 upto; simp; omega
  have a2 : val8 (255 + (1 + y)) = false := by unfold val8 upto; simp; omega
  have a3 : upto (0 - (1 + y)) 0 255 = false := by unfold upto; simp; omega
  have a4 : lab (0 - (1 + y)) = false := by unfold lab upto; simp; omega
  have a5 : lab (3 + (1 + y)) = false := by unfold lab upto; simp; omega
  have a6 : ¬ (0 - (1 + y) ≥ 0) := by omega
  have a7 : ¬ (1 + y < 1) := by omega
  generalize 0 - (1 + y) = m at *
  generalize 3 + (1 + y) = n at *
  generalize 255 + (1 + y) = k at *
  generalize 1 + y = d at *
  have v1 : val8 1 = true := rfl
  have v2 : val8 2 = true := rfl
  have v3 : val8 3 = true := rfl
  have v4 : val8 4 = true := rfl
  have v0 : val8 0 = true := rfl
  have c0 : clk 0 = true := rfl
  have u0 : upto 0 0 255 = true := rfl
  simp [pe, gokA, pokA, nokA, amay, rowMay, badW, fx, idxF, wmayR, wmay, toZ, mW, mL, mZ, thr, dI, lab0, lab1, lab2, lab3, List.findIdx?_cons, a1, a2, a3, a4, a5, a6, a7, v0, v1, v2, v3, v4, c0, u0]
theorem e5_22 (an : Int → Int → Int) (wh x : Int) (K : DV → Prop) : (askK an [(31, 2), (43, 2), (69, 0), (83, 0), (97, 0)] Try.prog [(20, sNewB), (22, sGetB), (24, sPutB), (19, sACopy), (27, sI), (28, sAMay), (31, sT)] Try.f5 [I wh, I x] K) = (an (Int.fdiv wh (4)) (3) = 2 ∧ an wh (3) = 2 ∧ an wh (1) = 0 ∧ an wh (1) = 0 ∧ an wh (1) = 0 ∧ bif pe (nokA [] [] [[D.v (Value.int IntKind.i64 (IntKind.wrap IntKind.i64 (255 + IntKind.wrap IntKind.i64 (1 + an x (1023)))))]] []) == 400 then bif pe (gokA (toZ [[D.v (Value.int IntKind.i64 (1)), D.v (Value.int IntKind.i64 (0)), D.v (Value.int IntKind.i64 (0))]]) (toZ [[D.v (Value.int IntKind.i64 (2)), D.v (Value.int IntKind.i64 (0)), D.v (Value.int IntKind.i64 (0))]]) (toZ [[D.v (Value.int IntKind.i64 (3)), D.v (Value.int IntKind.i64 (0)), D.v (Value.int IntKind.i64 (0))]]) (toZ [[D.v (Value.int IntKind.i64 (4)), D.v (Value.int IntKind.i64 (0)), D.v (Value.int IntKind.i64 (0))]]) (IntKind.wrap IntKind.i64 (0 - IntKind.wrap IntKind.i64 (1 + an x (1023)))) (0)) == 400 then bif pe (gokA (toZ [[D.v (Value.int IntKind.i64 (1)), D.v (Value.int IntKind.i64 (0)), D.v (Value.int IntKind.i64 (0))]]) (toZ [[D.v (Value.int IntKind.i64 (2)), D.v (Value.int IntKind.i64 (0)), D.v (Value.int IntKind.i64 (0))]]) (toZ [[D.v (Value.int IntKind.i64 (3)), D.v (Value.int IntKind.i64 (0)), D.v (Value.int IntKind.i64 (0))]]) (toZ [[D.v (Value.int IntKind.i64 (4)), D.v (Value.int IntKind.i64 (0)), D.v (Value.int IntKind.i64 (0))]]) (2) (IntKind.wrap IntKind.i64 (0 - IntKind.wrap IntKind.i64 (1 + an x (1023))))) == 400 then bif pe (pokA (toZ [[D.v (Value.int IntKind.i64 (1)), D.v (Value.int IntKind.i64 (0)), D.v (Value.int IntKind.i64 (0))]]) (toZ [[D.v (Value.int IntKind.i64 (2)), D.v (Value.int IntKind.i64 (0)), D.v (Value.int IntKind.i64 (0))]]) (toZ [[D.v (Value.int IntKind.i64 (3)), D.v (Value.int IntKind.i64 (0)), D.v (Value.int IntKind.i64 (0))]]) (toZ [[D.v (Value.int IntKind.i64 (4)), D.v (Value.int IntKind.i64 (0)), D.v (Value.int IntKind.i64 (0))]]) (2) (IntKind.wrap IntKind.i64 (0 - IntKind.wrap IntKind.i64 (1 + an x (1023)))) (0) (0) (0)) == 400 then bif pe (pokA (toZ [[D.v (Value.int IntKind.i64 (1)), D.v (Value.int IntKind.i64 (0)), D.v (Value.int IntKind.i64 (0))]]) (toZ [[D.v (Value.int IntKind.i64 (2)), D.v (Value.int IntKind.i64 (0)), D.v (Value.int IntKind.i64 (0))]]) (toZ [[D.v (Value.int IntKind.i64 (3)), D.v (Value.int IntKind.i64 (0)), D.v (Value.int IntKind.i64 (0))]]) (toZ [[D.v (Value.int IntKind.i64 (4)), D.v (Value.int IntKind.i64 (0)), D.v (Value.int IntKind.i64 (0))]]) (2) (0) (IntKind.wrap IntKind.i64 (0 - IntKind.wrap IntKind.i64 (1 + an x (1023)))) (0) (0)) == 400 then bif !amay (toZ [[D.v (Value.int IntKind.i64 (1)), D.v (Value.int IntKind.i64 (0)), D.v (Value.int IntKind.i64 (0))]]) (toZ [[D.v (Value.int IntKind.i64 (2)), D.v (Value.int IntKind.i64 (0)), D.v (Value.int IntKind.i64 (0))]]) (toZ [[D.v (Value.int IntKind.i64 (3)), D.v (Value.int IntKind.i64 (0)), D.v (Value.int IntKind.i64 (IntKind.wrap IntKind.i64 (0 - IntKind.wrap IntKind.i64 (1 + an x (1023)))))]]) (toZ [[D.v (Value.int IntKind.i64 (4)), D.v (Value.int IntKind.i64 (0)), D.v (Value.int IntKind.i64 (0))]]) then K (DV.c (D.v (Value.bool (pe (gokA (toZ [[D.v (Value.int IntKind.i64 (1)), D.v (Value.int IntKind.i64 (0)), D.v (Value.int IntKind.i64 (0))]]) (toZ [[D.v (Value.int IntKind.i64 (2)), D.v (Value.int IntKind.i64 (0)), D.v (Value.int IntKind.i64 (0))]]) (toZ [[D.v (Value.int IntKind.i64 (3)), D.v (Value.int IntKind.i64 (0)), D.v (Value.int IntKind.i64 (IntKind.wrap IntKind.i64 (0 - IntKind.wrap IntKind.i64 (1 + an x (1023)))))]]) (toZ [[D.v (Value.int IntKind.i64 (4)), D.v (Value.int IntKind.i64 (0)), D.v (Value.int IntKind.i64 (0))]]) (0) (0)) == 400)))) else K (DV.c (D.v (Value.bool false))) else K (DV.c (D.v (Value.bool false))) else K (DV.c (D.v (Value.bool false))) else K (DV.c (D.v (Value.bool false))) else K (DV.c (D.v (Value.bool false))) else K (DV.c (D.v (Value.bool false)))) := by kernel_rfl
theorem t5_22 (wh x : Int) (h1 : band (Int.fdiv wh 4) 3 = 2) (h2 : band wh 3 = 2) (h3 : band wh 1 = 0) : CT Try.prog 5 [I wh, I x] (B true) := by
  refine ct_askK [(31, 2), (43, 2), (69, 0), (83, 0), (97, 0)] (l := [(20, sNewB), (22, sGetB), (24, sPutB), (19, sACopy), (27, sI), (28, sAMay), (31, sT)]) (.cons oNewB (.cons oGetB (.cons oPutB (.cons oLCopy (.cons oNum (.cons oAMay (.cons oAw .nil))))))) mixed Try.func5 rfl rfl rfl ?_
  rw [e5_22]
  refine ⟨h1, h2, h3, h3, h3, ?_⟩
  have hy : 0 ≤ band x 1023 ∧ band x 1023 ≤ 1023 := by rw [mask10]; omega
  generalize band x 1023 = y at *
  have w1 : IntKind.wrap .i64 (1 + y) = 1 + y := wrap_id (by omega) (by omega)
  have w2 : IntKind.wrap .i64 (0 - (1 + y)) = 0 - (1 + y) := wrap_id (by omega) (by omega)
  have w3 : IntKind.wrap .i64 (3 + (1 + y)) = 3 + (1 + y) := wrap_id (by omega) (by omega)
  have w4 : IntKind.wrap .i64 (255 + (1 + y)) = 255 + (1 + y) := wrap_id (by omega) (by omega)
  simp only [w1, w2, w3, w4]
  have a1 : val8 (0 - (1 + y)) = false := by unfold val8 upto; simp; omega
  have a2 : val8 (255 + (1 + y)) = false := by unfold val8 upto; simp; omega
  have a3 : upto (0 - (1 + y)) 0 255 = false := by unfold upto; simp; omega
  have a4 : lab (0 - (1 + y)) = false := by unfold lab upto; simp; omega
  have a5 : lab (3 + (1 + y)) = false := by unfold lab upto; simp; omega
  have a6 : ¬ (0 - (1 + y) ≥ 0) := by omega
  have a7 : ¬ (1 + y < 1) := by omega
  generalize 0 - (1 + y) = m at *
  generalize 3 + (1 + y) = n at *
  generalize 255 + (1 + y) = k at *
  generalize 1 + y = d at *
  have v1 : val8 1 = true := rfl
  have v2 : val8 2 = true := rfl
  have v3 : val8 3 = true := rfl
  have v4 : val8 4 = true := rfl
  have v0 : val8 0 = true := rfl
  have c0 : clk 0 = true := rfl
  have u0 : upto 0 0 255 = true := rfl
  simp [pe, gokA, pokA, nokA, amay, rowMay, badW, fx, idxF, wmayR, wmay, toZ, mW, mL, mZ, thr, dI, lab0, lab1, lab2, lab3, List.findIdx?_cons, a1, a2, a3, a4, a5, a6, a7, v0, v1, v2, v3, v4, c0, u0]
theorem e5_23 (an : Int → Int → Int) (wh x : Int) (K : DV → Prop) : (askK an [(31, 2), (43, 3), (69, 1), (83, 1), (97, 1)] Try.prog [(20, sNewB), (22, sGetB), (24, sPutB), (19, sACopy), (27, sI), (28, sAMay), (31, sT)] Try.f5 [I wh, I x] K) = (an (Int.fdiv wh (4)) (3) = 2 ∧ an wh (3) = 3 ∧ an wh (1) = 1 ∧ an wh (1) = 1 ∧ an wh (1) = 1 ∧ bif pe (gokA (toZ [[D.v (Value.int IntKind.i64 (1)), D.v (Value.int IntKind.i64 (0)), D.v (Value.int IntKind.i64 (0))]]) (toZ [[D.v (Value.int IntKind.i64 (2)), D.v (Value.int IntKind.i64 (0)), D.v (Value.int IntKind.i64 (0))]]) (toZ [[D.v (Value.int IntKind.i64 (3)), D.v (Value.int IntKind.i64 (0)), D.v (Value.int IntKind.i64 (0))]]) (toZ [[D.v (Value.int IntKind.i64 (4)), D.v (Value.int IntKind.i64 (0)), D.v (Value.int IntKind.i64 (0))]]) (IntKind.wrap IntKind.i64 (3 + IntKind.wrap IntKind.i64 (1 + an x (1023)))) (0)) == 400 then bif pe (gokA (toZ [[D.v (Value.int IntKind.i64 (1)), D.v (Value.int IntKind.i64 (0)), D.v (Value.int IntKind.i64 (0))]]) (toZ [[D.v (Value.int IntKind.i64 (2)), D.v (Value.int IntKind.i64 (0)), D.v (Value.int IntKind.i64 (0))]]) (toZ [[D.v (Value.int IntKind.i64 (3)), D.v (Value.int IntKind.i64 (0)), D.v (Value.int IntKind.i64 (0))]]) (toZ [[D.v (Value.int IntKind.i64 (4)), D.v (Value.int IntKind.i64 (0)), D.v (Value.int IntKind.i64 (0))]]) (2) (IntKind.wrap IntKind.i64 (1 + an x (1023)))) == 400 then bif pe (pokA (toZ [[D.v (Value.int IntKind.i64 (1)), D.v (Value.int IntKind.i64 (0)), D.v (Value.int IntKind.i64 (0))]]) (toZ [[D.v (Value.int IntKind.i64 (2)), D.v (Value.int IntKind.i64 (0)), D.v (Value.int IntKind.i64 (0))]]) (toZ [[D.v (Value.int IntKind.i64 (3)), D.v (Value.int IntKind.i64 (0)), D.v (Value.int IntKind.i64 (0))]]) (toZ [[D.v (Value.int IntKind.i64 (4)), D.v (Value.int IntKind.i64 (0)), D.v (Value.int IntKind.i64 (0))]]) (2) (IntKind.wrap IntKind.i64 (1 + an x (1023))) (0) (0) (0)) == 400 then bif pe (pokA (toZ [[D.v (Value.int IntKind.i64 (1)), D.v (Value.int IntKind.i64 (0)), D.v (Value.int IntKind.i64 (0))]]) (toZ [[D.v (Value.int IntKind.i64 (2)), D.v (Value.int IntKind.i64 (0)), D.v (Value.int IntKind.i64 (0))]]) (toZ [[D.v (Value.int IntKind.i64 (3)), D.v (Value.int IntKind.i64 (0)), D.v (Value.int IntKind.i64 (0))]]) (toZ [[D.v (Value.int IntKind.i64 (4)), D.v (Value.int IntKind.i64 (0)), D.v (Value.int IntKind.i64 (0))]]) (2) (0) (IntKind.wrap IntKind.i64 (0 - IntKind.wrap IntKind.i64 (1 + an x (1023)))) (0) (0)) == 400 then bif !amay (toZ [[D.v (Value.int IntKind.i64 (1)), D.v (Value.int IntKind.i64 (0)), D.v (Value.int IntKind.i64 (0))]]) (toZ [[D.v (Value.int IntKind.i64 (2)), D.v (Value.int IntKind.i64 (0)), D.v (Value.int IntKind.i64 (0))]]) (toZ [[D.v (Value.int IntKind.i64 (3)), D.v (Value.int IntKind.i64 (0)), D.v (Value.int IntKind.i64 (IntKind.wrap IntKind.i64 (0 - IntKind.wrap IntKind.i64 (1 + an x (1023)))))]]) (toZ [[D.v (Value.int IntKind.i64 (4)), D.v (Value.int IntKind.i64 (0)), D.v (Value.int IntKind.i64 (0))]]) then K (DV.c (D.v (Value.bool (pe (gokA (toZ [[D.v (Value.int IntKind.i64 (1)), D.v (Value.int IntKind.i64 (0)), D.v (Value.int IntKind.i64 (0))]]) (toZ [[D.v (Value.int IntKind.i64 (2)), D.v (Value.int IntKind.i64 (0)), D.v (Value.int IntKind.i64 (0))]]) (toZ [[D.v (Value.int IntKind.i64 (3)), D.v (Value.int IntKind.i64 (0)), D.v (Value.int IntKind.i64 (IntKind.wrap IntKind.i64 (0 - IntKind.wrap IntKind.i64 (1 + an x (1023)))))]]) (toZ [[D.v (Value.int IntKind.i64 (4)), D.v (Value.int IntKind.i64 (0)), D.v (Value.int IntKind.i64 (0))]]) (0) (0)) == 400)))) else K (DV.c (D.v (Value.bool false))) else K (DV.c (D.v (Value.bool false))) else K (DV.c (D.v (Value.bool false))) else K (DV.c (D.v (Value.bool false))) else K (DV.c (D.v (Value.bool false)))) := by kernel_rfl
theorem t5_23 (wh x : Int) (h1 : band (Int.fdiv wh 4) 3 = 2) (h2 : band wh 3 = 3) (h3 : band wh 1 = 1) : CT Try.prog 5 [I wh, I x] (B true) := by
  refine ct_askK [(31, 2), (43, 3), (69, 1), (83, 1), (97, 1)] (l := [(20, sNewB), (22, sGetB), (24, sPutB), (19, sACopy), (27, sI), (28, sAMay), (31, sT)]) (.cons oNewB (.cons oGetB (.cons oPutB (.cons oLCopy (.cons oNum (.cons oAMay (.cons oAw .nil))))))) mixed Try.func5 rfl rfl rfl ?_
  rw [e5_23]
  refine ⟨h1, h2, h3, h3, h3, ?_⟩
  have hy : 0 ≤ band x 1023 ∧ band x 1023 ≤ 1023 := by rw [mask10]; omega
  generalize band x 1023 = y at *
  have w1 : IntKind.wrap .i64 (1 + y) = 1 + y := wrap_id (by omega) (by omega)
  have w2 : IntKind.wrap .i64 (0 - (1 + y)) = 0 - (1 + y) := wrap_id (by omega) (by omega)
  have w3 : IntKind.wrap .i64 (3 + (1 + y)) = 3 + (1 + y) := wrap_id (by omega) (by omega)
  have w4 : IntKind.wrap .i64 (255 + (1 + y)) = 255 + (1 + y) := wrap_id (by omega) (by omega)
  simp only [w1, w2, w3, w4]
  have a1 : val8 (0 - (1 + y)) = false := by unfold val8 upto; simp; omega
  have a2 : val8 (255 + (1 + y)) = false := by unfold val8 upto; simp; omega
  have a3 : upto (0 - (1 + y)) 0 255 = false := by unfold upto; simp; omega
  have a4 : lab (0 - (1 + y)) = false := by unfold lab upto; simp; omega
  have a5 : lab (3 + (1 + y)) = false := by unfold lab upto; simp; omega
  have a6 : ¬ (0 - (1 + y) ≥ 0) := by omega
  have a7 : ¬ (1 + y < 1) := by omega
  generalize 0 - (1 + y) = m at *
  generalize 3 + (1 + y) = n at *
  generalize 255 + (1 + y) = k at *
  generalize 1 + y = d at *
  have v1 : val8 1 = true := rfl
  have v2 : val8 2 = true := rfl
  have v3 : val8 3 = true := rfl
  have v4 : val8 4 = true := rfl
  have v0 : val8 0 = true := rfl
  have c0 : clk 0 = true := rfl
  have u0 : upto 0 0 255 = true := rfl
  simp [pe, gokA, pokA, nokA, amay, rowMay, badW, fx, idxF, wmayR, wmay, toZ, mW, mL, mZ, thr, dI, lab0, lab1, lab2, lab3, List.findIdx?_cons, a1, a2, a3, a4, a5, a6, a7, v0, v1, v2, v3, v4, c0, u0]
end Vm