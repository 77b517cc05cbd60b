/- What the functions of this text do, told by an interpreter that is proved right (YtdfehiebnempaaaVA to VD). My own work. -/
import Derived.Test.YtdfehiebnempaaaVArG
import Derived.Test.YtdfehiebnempaaaVD
namespace Vm
open Go Go.Proofs
set_option linter.unusedSimpArgs false
set_option linter.unusedVariables false
set_option maxRecDepth 100000
/-! ### ArenaRow -/
def st7 (R : List (List D)) (sp : List (List D)) (i : Int) (n0 : Nat) (m0 : Nat) (n1 : Nat) (m1 : Nat) (n2 : Nat) (m2 : Nat) (n3 : Nat) (m3 : Nat) (P0 : List (List D)) (P1 : List (List D)) (P2 : List (List D)) (P3 : List (List D)) (w0 : Int) (w1 : Int) (w2 : Int) (w3 : Int) (w4 : Int) (w5 : Int) (w6 : Int) (w7 : Int) (w8 : Int) (w9 : Int) (w10 : Int) (w11 : Int) (w12 : Int) (w13 : Int) (w14 : Int) (w15 : Int) : X := ⟨mkT 93 [(0, aS 1 R sp), (3, .c (.rp 4 0 4 0 0)), (5, .c (.rp 6 0 16 0 0)), (6, ai i)], [(4, .bx 0 4 [.rs 23000 0 3 0 n0 m0, .rs 23001 0 3 0 n1 m1, .rs 23002 0 3 0 n2 m2, .rs 23003 0 3 0 n3 m3]), (23000, .sl 0 3 P0), (23001, .sl 0 3 P1), (23002, .sl 0 3 P2), (23003, .sl 0 3 P3), (6, .bx 0 16 [ci w0, ci w1, ci w2, ci w3, ci w4, ci w5, ci w6, ci w7, ci w8, ci w9, ci w10, ci w11, ci w12, ci w13, ci w14, ci w15])], []⟩
def v_st7 (R : List (List D)) (sp : List (List D)) : Vw := fun y K => wI y 6 fun i => wR y 4 fun r => wC r fun c'1 r => cS c'1 fun n0 m0 => wC r fun c'2 r => cS c'2 fun n1 m1 => wC r fun c'3 r => cS c'3 fun n2 m2 => wC r fun c'4 r => cS c'4 fun n3 m3 => wL y 23000 fun P0 => wL y 23001 fun P1 => wL y 23002 fun P2 => wL y 23003 fun P3 => wR y 6 fun r => wC r fun c'5 r => cI c'5 fun w0 => wC r fun c'6 r => cI c'6 fun w1 => wC r fun c'7 r => cI c'7 fun w2 => wC r fun c'8 r => cI c'8 fun w3 => wC r fun c'9 r => cI c'9 fun w4 => wC r fun c'10 r => cI c'10 fun w5 => wC r fun c'11 r => cI c'11 fun w6 => wC r fun c'12 r => cI c'12 fun w7 => wC r fun c'13 r => cI c'13 fun w8 => wC r fun c'14 r => cI c'14 fun w9 => wC r fun c'15 r => cI c'15 fun w10 => wC r fun c'16 r => cI c'16 fun w11 => wC r fun c'17 r => cI c'17 fun w12 => wC r fun c'18 r => cI c'18 fun w13 => wC r fun c'19 r => cI c'19 fun w14 => wC r fun c'20 r => cI c'20 fun w15 => K (st7 R sp i n0 m0 n1 m1 n2 m2 n3 m3 P0 P1 P2 P3 w0 w1 w2 w3 w4 w5 w6 w7 w8 w9 w10 w11 w12 w13 w14 w15)
theorem v_st7_ok (R : List (List D)) (sp : List (List D)) : VwOK (v_st7 R sp) := fun y K h => by
  unfold v_st7 at h
  obtain ⟨i, h⟩ := wI_ex h
  obtain ⟨r, h⟩ := wR_ex h
  obtain ⟨c'1, r, h⟩ := wC_ex h
  obtain ⟨n0, m0, h⟩ := cS_ex h
  obtain ⟨c'2, r, h⟩ := wC_ex h
  obtain ⟨n1, m1, h⟩ := cS_ex h
  obtain ⟨c'3, r, h⟩ := wC_ex h
  obtain ⟨n2, m2, h⟩ := cS_ex h
  obtain ⟨c'4, r, h⟩ := wC_ex h
  obtain ⟨n3, m3, h⟩ := cS_ex h
  obtain ⟨P0, h⟩ := wL_ex h
  obtain ⟨P1, h⟩ := wL_ex h
  obtain ⟨P2, h⟩ := wL_ex h
  obtain ⟨P3, h⟩ := wL_ex h
  obtain ⟨r, h⟩ := wR_ex h
  obtain ⟨c'5, r, h⟩ := wC_ex h
  obtain ⟨w0, h⟩ := cI_ex h
  obtain ⟨c'6, r, h⟩ := wC_ex h
  obtain ⟨w1, h⟩ := cI_ex h
  obtain ⟨c'7, r, h⟩ := wC_ex h
  obtain ⟨w2, h⟩ := cI_ex h
  obtain ⟨c'8, r, h⟩ := wC_ex h
  obtain ⟨w3, h⟩ := cI_ex h
  obtain ⟨c'9, r, h⟩ := wC_ex h
  obtain ⟨w4, h⟩ := cI_ex h
  obtain ⟨c'10, r, h⟩ := wC_ex h
  obtain ⟨w5, h⟩ := cI_ex h
  obtain ⟨c'11, r, h⟩ := wC_ex h
  obtain ⟨w6, h⟩ := cI_ex h
  obtain ⟨c'12, r, h⟩ := wC_ex h
  obtain ⟨w7, h⟩ := cI_ex h
  obtain ⟨c'13, r, h⟩ := wC_ex h
  obtain ⟨w8, h⟩ := cI_ex h
  obtain ⟨c'14, r, h⟩ := wC_ex h
  obtain ⟨w9, h⟩ := cI_ex h
  obtain ⟨c'15, r, h⟩ := wC_ex h
  obtain ⟨w10, h⟩ := cI_ex h
  obtain ⟨c'16, r, h⟩ := wC_ex h
  obtain ⟨w11, h⟩ := cI_ex h
  obtain ⟨c'17, r, h⟩ := wC_ex h
  obtain ⟨w12, h⟩ := cI_ex h
  obtain ⟨c'18, r, h⟩ := wC_ex h
  obtain ⟨w13, h⟩ := cI_ex h
  obtain ⟨c'19, r, h⟩ := wC_ex h
  obtain ⟨w14, h⟩ := cI_ex h
  obtain ⟨c'20, r, h⟩ := wC_ex h
  obtain ⟨w15, h⟩ := cI_ex h
  exact ⟨_, h⟩
theorem loops2a {P : Program} {l : List (FuncId × Spec)} {fn : Func} {k : Nat} {s : LSum} (hn : (loopsOf (bodyOf fn)).length = 2) (hk : loopId (bodyL fn 0) = k) (hk1 : (hkl l [(k, s)]).loop (loopId (bodyL fn 1)) = none) (h : ∀ Q x, s Q x → XWP P (.loop (bodyL fn 0)) Q x) : LoopsOK P (hkl l [(k, s)]) (bodyOf fn) :=
  loops_ok 2 hn fun i hi s' hs Q x hq => by
    match i, hi with
    | 1, _ => rw [hk1] at hs; cases hs
    | 0, _ =>
      rw [hk] at hs
      have hs' : some s = some s' := by simpa [lookL, hkl, hkA, beq_self] using hs
      cases hs'
      exact h Q x hq
def gK (an : Int → Int → Int) (pk : List (Nat × Int)) (l : List (FuncId × Spec)) : Hooks := { hkA an bor l [] with pick := fun k => lookN pk k }
theorem gK_ok (pk : List (Nat × Int)) {l : List (FuncId × Spec)} (h : SpecsOK Try.prog l) : CallsOK Try.prog (gK band pk l) := ⟨fun _ _ => rfl, fun _ _ => rfl, ⟨fun _ => rfl, fun _ => rfl, fun _ => rfl⟩, fun f ds Q hq => lookS_ok h f ds Q hq⟩
def rw4 (f : Nat → Int) (j : Nat) : List (List D) := [[vI (f j), vI 0, vI 0], [vI (f (j + 1)), vI 0, vI 0], [vI (f (j + 2)), vI 0, vI 0], [vI (f (j + 3)), vI 0, vI 0]]
def upd (f : Nat → Int) (j : Nat) (v : Int) : Nat → Int := fun n => match Nat.beq n j with | true => v | false => f n
theorem upd_all {f : Nat → Int} (h : ∀ n, val8 (f n) = true) {j : Nat} {v : Int} (hv : val8 v = true) (n : Nat) : val8 (upd f j v n) = true := by unfold upd; split; exact hv; exact h n
theorem amay4 {f : Nat → Int} (h : ∀ n, val8 (f n) = true) : amay (toZ (rw4 f 0)) (toZ (rw4 f 4)) (toZ (rw4 f 8)) (toZ (rw4 f 12)) = true := by
  have c0 : clk 0 = true := rfl
  have u0 : upto 0 0 255 = true := rfl
  simp [amay, rowMay, badW, wmayR, wmay, toZ, rw4, dI, h, c0, u0]
theorem gok4 {f : Nat → Int} (h : ∀ n, val8 (f n) = true) (lv num : Int) (ht : thr 4 4 4 4 lv num = true) : gokA (toZ (rw4 f 0)) (toZ (rw4 f 4)) (toZ (rw4 f 8)) (toZ (rw4 f 12)) lv num = true := by
  unfold gokA
  rw [amay4 h]
  exact ht
theorem pok4 {f : Nat → Int} (h : ∀ n, val8 (f n) = true) (lv num v : Int) (hv : val8 v = true) (ht : thr 4 4 4 4 lv num = true) : pokA (toZ (rw4 f 0)) (toZ (rw4 f 4)) (toZ (rw4 f 8)) (toZ (rw4 f 12)) lv num v 0 0 = true := by
  have c0 : clk 0 = true := rfl
  have u0 : upto 0 0 255 = true := rfl
  simp [pokA, gok4 h lv num ht, wmay, hv, c0, u0]
def sf7 (R sp : List (List D)) (f : Nat → Int) (i : Int) : X := st7 R sp i 4 4 4 4 4 4 4 4 (rw4 f 0) (rw4 f 4) (rw4 f 8) (rw4 f 12) (f 0) (f 1) (f 2) (f 3) (f 4) (f 5) (f 6) (f 7) (f 8) (f 9) (f 10) (f 11) (f 12) (f 13) (f 14) (f 15)
theorem e7r_0 (an : Int → Int → Int) (R sp : List (List D)) (i : Int) (n0 : Nat) (m0 : Nat) (n1 : Nat) (m1 : Nat) (n2 : Nat) (m2 : Nat) (n3 : Nat) (m3 : Nat) (P0 : List (List D)) (P1 : List (List D)) (P2 : List (List D)) (P3 : List (List D)) (w0 : Int) (w1 : Int) (w2 : Int) (w3 : Int) (w4 : Int) (w5 : Int) (w6 : Int) (w7 : Int) (w8 : Int) (w9 : Int) (w10 : Int) (w11 : Int) (w12 : Int) (w13 : Int) (w14 : Int) (w15 : Int) (N : X → Prop) (E : Exit → X → Prop) : (roundW Try.prog (gK an [(43, 0), (55, 0)] [(22, sGetC), (24, sPutC), (27, sI)]) Try.f7 0 [(23000, 58000), (23001, 58001), (23002, 58002), (23003, 58003)] [0, 3, 5, 6] [4, 23000, 23001, 23002, 23003, 6] (v_st7 R sp) (v_st7 R sp) N E (st7 R sp i n0 m0 n1 m1 n2 m2 n3 m3 P0 P1 P2 P3 w0 w1 w2 w3 w4 w5 w6 w7 w8 w9 w10 w11 w12 w13 w14 w15)) = (bif decide (i < @Nat.cast Int _ (List.length R)) then bif decide (i < 40) then bif decide (0 ≤ i) && decide (i < @Nat.cast Int _ (List.length R)) then bif isJ [IntKind.i64] (List.drop (0) (List.getD R (Int.toNat i) [])) then an (hdJ (List.drop (0) (List.getD R (Int.toNat i) []))) (15) = 0 ∧ bif decide (0 ≤ i) && decide (i < @Nat.cast Int _ (List.length R)) then bif isJ [IntKind.i64] (List.drop (0) (List.getD R (Int.toNat i) [])) then an (0) (3) = 0 ∧ bif decide (0 + n0 ≤ List.length P0) then bif decide (0 + n1 ≤ List.length P1) then bif decide (0 + n2 ≤ List.length P2) then bif decide (0 + n3 ≤ List.length P3) then bif okA (cut P0 (0) n0) (cut P1 (0) n1) (cut P2 (0) n2) (cut P3 (0) n3) && okC4 (cut P0 (0) n0) (cut P1 (0) n1) (cut P2 (0) n2) (cut P3 (0) n3) then ∀ (P0_1 P1_1 P2_1 P3_1 : List (List D)) (e : Int), putR (cut P0 (0) n0) (cut P1 (0) n1) (cut P2 (0) n2) (cut P3 (0) n3) (0) (0) (an (Int.fdiv (hdJ (List.drop (0) (List.getD R (Int.toNat i) []))) (16)) (255)) (0) (0) P0_1 P1_1 P2_1 P3_1 e → bif e != 0 then st7 R sp i n0 m0 n1 m1 n2 m2 n3 m3 P0 P1 P2 P3 w0 w1 w2 w3 w4 w5 w6 w7 w8 w9 w10 w11 w12 w13 w14 w15 = st7 R sp i n0 m0 n1 m1 n2 m2 n3 m3 P0 P1 P2 P3 w0 w1 w2 w3 w4 w5 w6 w7 w8 w9 w10 w11 w12 w13 w14 w15 ∧ E Exit.ret (st7 R sp i n0 m0 n1 m1 n2 m2 n3 m3 P0 P1 P2 P3 w0 w1 w2 w3 w4 w5 w6 w7 w8 w9 w10 w11 w12 w13 w14 w15) else st7 R sp (IntKind.wrap IntKind.i64 (i + 1)) (List.length P0_1) (List.length P0_1 + 0) (List.length P1_1) (List.length P1_1 + 0) (List.length P2_1) (List.length P2_1 + 0) (List.length P3_1) (List.length P3_1 + 0) (P0_1 ++ []) (P1_1 ++ []) (P2_1 ++ []) (P3_1 ++ []) (an (Int.fdiv (hdJ (List.drop (0) (List.getD R (Int.toNat i) []))) (16)) (255)) w1 w2 w3 w4 w5 w6 w7 w8 w9 w10 w11 w12 w13 w14 w15 = st7 R sp (IntKind.wrap IntKind.i64 (i + 1)) (List.length P0_1) (List.length P0_1 + 0) (List.length P1_1) (List.length P1_1 + 0) (List.length P2_1) (List.length P2_1 + 0) (List.length P3_1) (List.length P3_1 + 0) (P0_1 ++ []) (P1_1 ++ []) (P2_1 ++ []) (P3_1 ++ []) (an (Int.fdiv (hdJ (List.drop (0) (List.getD R (Int.toNat i) []))) (16)) (255)) w1 w2 w3 w4 w5 w6 w7 w8 w9 w10 w11 w12 w13 w14 w15 ∧ N (st7 R sp (IntKind.wrap IntKind.i64 (i + 1)) (List.length P0_1) (List.length P0_1 + 0) (List.length P1_1) (List.length P1_1 + 0) (List.length P2_1) (List.length P2_1 + 0) (List.length P3_1) (List.length P3_1 + 0) (P0_1 ++ []) (P1_1 ++ []) (P2_1 ++ []) (P3_1 ++ []) (an (Int.fdiv (hdJ (List.drop (0) (List.getD R (Int.toNat i) []))) (16)) (255)) w1 w2 w3 w4 w5 w6 w7 w8 w9 w10 w11 w12 w13 w14 w15) else False else False else False else False else False else False else False else False else False else st7 R sp i n0 m0 n1 m1 n2 m2 n3 m3 P0 P1 P2 P3 w0 w1 w2 w3 w4 w5 w6 w7 w8 w9 w10 w11 w12 w13 w14 w15 = st7 R sp i n0 m0 n1 m1 n2 m2 n3 m3 P0 P1 P2 P3 w0 w1 w2 w3 w4 w5 w6 w7 w8 w9 w10 w11 w12 w13 w14 w15 ∧ E (Exit.exit (0)) (st7 R sp i n0 m0 n1 m1 n2 m2 n3 m3 P0 P1 P2 P3 w0 w1 w2 w3 w4 w5 w6 w7 w8 w9 w10 w11 w12 w13 w14 w15) else st7 R sp i n0 m0 n1 m1 n2 m2 n3 m3 P0 P1 P2 P3 w0 w1 w2 w3 w4 w5 w6 w7 w8 w9 w10 w11 w12 w13 w14 w15 = st7 R sp i n0 m0 n1 m1 n2 m2 n3 m3 P0 P1 P2 P3 w0 w1 w2 w3 w4 w5 w6 w7 w8 w9 w10 w11 w12 w13 w14 w15 ∧ E (Exit.exit (0)) (st7 R sp i n0 m0 n1 m1 n2 m2 n3 m3 P0 P1 P2 P3 w0 w1 w2 w3 w4 w5 w6 w7 w8 w9 w10 w11 w12 w13 w14 w15)) := by kernel_rfl
theorem r7_0 {R sp : List (List D)} {f : Nat → Int} {i : Nat} (hR : okZ 1 R = true) (hf : ∀ n, val8 (f n) = true) (hi : i < R.length) (hi2 : i < 40) (hk : band (hdJ (R.getD i [])) 15 = 0) {N : X → Prop} {E : Exit → X → Prop}
    (h : ∀ v, val8 v = true → N (sf7 R sp (upd f 0 v) ((i + 1 : Nat) : Int))) : roundW Try.prog (gK band [(43, 0), (55, 0)] [(22, sGetC), (24, sPutC), (27, sI)]) Try.f7 0 [(23000, 58000), (23001, 58001), (23002, 58002), (23003, 58003)] [0, 3, 5, 6] [4, 23000, 23001, 23002, 23003, 6] (v_st7 R sp) (v_st7 R sp) N E (sf7 R sp f i) := by
  unfold sf7
  rw [e7r_0]
  obtain ⟨el, hw, hn⟩ := okZ_spec hR
  have hll : i < (toZ R).length := by rw [toZ_len]; exact hi
  have hj1 : isJ [IntKind.i64] (R.getD i []) = true := by
    rw [el]; exact isJ_mZ (j := 0) (n := 1) hw hll (by omega)
  have wi : IntKind.wrap .i64 ((i : Int) + 1) = ((i + 1 : Nat) : Int) := wrap_nat (n := 1) (by omega)
  have hi3 : (i : Int) < 40 := by omega
  have hk3 : band 0 3 = 0 := by rw [mask2]; rfl
  have hc : ∀ j, cut (rw4 f j) 0 4 = rw4 f j := fun j => rfl
  have hl4 : ∀ j, (rw4 f j).length = 4 := fun j => rfl
  have hA : okA (rw4 f 0) (rw4 f 4) (rw4 f 8) (rw4 f 12) = true := rfl
  have hC : okC4 (rw4 f 0) (rw4 f 4) (rw4 f 8) (rw4 f 12) = true := rfl
  have hv : val8 (band (Int.fdiv (hdJ (R.getD i [])) 16) 255) = true := by
    rw [mask8]; unfold val8 upto; simp; omega
  simp only [Int.ofNat_lt, hi, hi3, decide_true, cond_true, Int.natCast_nonneg, Bool.and_self, Int.toNat_natCast, List.drop_zero, hj1, hk, hk3, hc, hl4, hA, hC, Nat.zero_add, Nat.le_refl, true_and, wi]
  intro P0 P1 P2 P3 e hp
  have hok := pok4 hf 0 0 _ hv rfl
  unfold putR at hp
  rw [hok] at hp
  obtain ⟨rfl, rfl, rfl, rfl, rfl⟩ := hp
  have hq : (pe true != 0) = false := rfl
  rw [hq, cond_false]
  exact h _ hv
theorem e7r_1 (an : Int → Int → Int) (R sp : List (List D)) (i : Int) (n0 : Nat) (m0 : Nat) (n1 : Nat) (m1 : Nat) (n2 : Nat) (m2 : Nat) (n3 : Nat) (m3 : Nat) (P0 : List (List D)) (P1 : List (List D)) (P2 : List (List D)) (P3 : List (List D)) (w0 : Int) (w1 : Int) (w2 : Int) (w3 : Int) (w4 : Int) (w5 : Int) (w6 : Int) (w7 : Int) (w8 : Int) (w9 : Int) (w10 : Int) (w11 : Int) (w12 : Int) (w13 : Int) (w14 : Int) (w15 : Int) (N : X → Prop) (E : Exit → X → Prop) : (roundW Try.prog (gK an [(43, 1), (55, 1)] [(22, sGetC), (24, sPutC), (27, sI)]) Try.f7 0 [(23000, 58000), (23001, 58001), (23002, 58002), (23003, 58003)] [0, 3, 5, 6] [4, 23000, 23001, 23002, 23003, 6] (v_st7 R sp) (v_st7 R sp) N E (st7 R sp i n0 m0 n1 m1 n2 m2 n3 m3 P0 P1 P2 P3 w0 w1 w2 w3 w4 w5 w6 w7 w8 w9 w10 w11 w12 w13 w14 w15)) = (bif decide (i < @Nat.cast Int _ (List.length R)) then bif decide (i < 40) then bif decide (0 ≤ i) && decide (i < @Nat.cast Int _ (List.length R)) then bif isJ [IntKind.i64] (List.drop (0) (List.getD R (Int.toNat i) [])) then an (hdJ (List.drop (0) (List.getD R (Int.toNat i) []))) (15) = 1 ∧ bif decide (0 ≤ i) && decide (i < @Nat.cast Int _ (List.length R)) then bif isJ [IntKind.i64] (List.drop (0) (List.getD R (Int.toNat i) [])) then an (1) (3) = 1 ∧ bif decide (0 + n0 ≤ List.length P0) then bif decide (0 + n1 ≤ List.length P1) then bif decide (0 + n2 ≤ List.length P2) then bif decide (0 + n3 ≤ List.length P3) then bif okA (cut P0 (0) n0) (cut P1 (0) n1) (cut P2 (0) n2) (cut P3 (0) n3) && okC4 (cut P0 (0) n0) (cut P1 (0) n1) (cut P2 (0) n2) (cut P3 (0) n3) then ∀ (P0_1 P1_1 P2_1 P3_1 : List (List D)) (e : Int), putR (cut P0 (0) n0) (cut P1 (0) n1) (cut P2 (0) n2) (cut P3 (0) n3) (0) (1) (an (Int.fdiv (hdJ (List.drop (0) (List.getD R (Int.toNat i) []))) (16)) (255)) (0) (0) P0_1 P1_1 P2_1 P3_1 e → bif e != 0 then st7 R sp i n0 m0 n1 m1 n2 m2 n3 m3 P0 P1 P2 P3 w0 w1 w2 w3 w4 w5 w6 w7 w8 w9 w10 w11 w12 w13 w14 w15 = st7 R sp i n0 m0 n1 m1 n2 m2 n3 m3 P0 P1 P2 P3 w0 w1 w2 w3 w4 w5 w6 w7 w8 w9 w10 w11 w12 w13 w14 w15 ∧ E Exit.ret (st7 R sp i n0 m0 n1 m1 n2 m2 n3 m3 P0 P1 P2 P3 w0 w1 w2 w3 w4 w5 w6 w7 w8 w9 w10 w11 w12 w13 w14 w15) else st7 R sp (IntKind.wrap IntKind.i64 (i + 1)) (List.length P0_1) (List.length P0_1 + 0) (List.length P1_1) (List.length P1_1 + 0) (List.length P2_1) (List.length P2_1 + 0) (List.length P3_1) (List.length P3_1 + 0) (P0_1 ++ []) (P1_1 ++ []) (P2_1 ++ []) (P3_1 ++ []) w0 (an (Int.fdiv (hdJ (List.drop (0) (List.getD R (Int.toNat i) []))) (16)) (255)) w2 w3 w4 w5 w6 w7 w8 w9 w10 w11 w12 w13 w14 w15 = st7 R sp (IntKind.wrap IntKind.i64 (i + 1)) (List.length P0_1) (List.length P0_1 + 0) (List.length P1_1) (List.length P1_1 + 0) (List.length P2_1) (List.length P2_1 + 0) (List.length P3_1) (List.length P3_1 + 0) (P0_1 ++ []) (P1_1 ++ []) (P2_1 ++ []) (P3_1 ++ []) w0 (an (Int.fdiv (hdJ (List.drop (0) (List.getD R (Int.toNat i) []))) (16)) (255)) w2 w3 w4 w5 w6 w7 w8 w9 w10 w11 w12 w13 w14 w15 ∧ N (st7 R sp (IntKind.wrap IntKind.i64 (i + 1)) (List.length P0_1) (List.length P0_1 + 0) (List.length P1_1) (List.length P1_1 + 0) (List.length P2_1) (List.length P2_1 + 0) (List.length P3_1) (List.length P3_1 + 0) (P0_1 ++ []) (P1_1 ++ []) (P2_1 ++ []) (P3_1 ++ []) w0 (an (Int.fdiv (hdJ (List.drop (0) (List.getD R (Int.toNat i) []))) (16)) (255)) w2 w3 w4 w5 w6 w7 w8 w9 w10 w11 w12 w13 w14 w15) else False else False else False else False else False else False else False else False else False else st7 R sp i n0 m0 n1 m1 n2 m2 n3 m3 P0 P1 P2 P3 w0 w1 w2 w3 w4 w5 w6 w7 w8 w9 w10 w11 w12 w13 w14 w15 = st7 R sp i n0 m0 n1 m1 n2 m2 n3 m3 P0 P1 P2 P3 w0 w1 w2 w3 w4 w5 w6 w7 w8 w9 w10 w11 w12 w13 w14 w15 ∧ E (Exit.exit (0)) (st7 R sp i n0 m0 n1 m1 n2 m2 n3 m3 P0 P1 P2 P3 w0 w1 w2 w3 w4 w5 w6 w7 w8 w9 w10 w11 w12 w13 w14 w15) else st7 R sp i n0 m0 n1 m1 n2 m2 n3 m3 P0 P1 P2 P3 w0 w1 w2 w3 w4 w5 w6 w7 w8 w9 w10 w11 w12 w13 w14 w15 = st7 R sp i n0 m0 n1 m1 n2 m2 n3 m3 P0 P1 P2 P3 w0 w1 w2 w3 w4 w5 w6 w7 w8 w9 w10 w11 w12 w13 w14 w15 ∧ E (Exit.exit (0)) (st7 R sp i n0 m0 n1 m1 n2 m2 n3 m3 P0 P1 P2 P3 w0 w1 w2 w3 w4 w5 w6 w7 w8 w9 w10 w11 w12 w13 w14 w15)) := by kernel_rfl
theorem r7_1 {R sp : List (List D)} {f : Nat → Int} {i : Nat} (hR : okZ 1 R = true) (hf : ∀ n, val8 (f n) = true) (hi : i < R.length) (hi2 : i < 40) (hk : band (hdJ (R.getD i [])) 15 = 1) {N : X → Prop} {E : Exit → X → Prop}
    (h : ∀ v, val8 v = true → N (sf7 R sp (upd f 1 v) ((i + 1 : Nat) : Int))) : roundW Try.prog (gK band [(43, 1), (55, 1)] [(22, sGetC), (24, sPutC), (27, sI)]) Try.f7 0 [(23000, 58000), (23001, 58001), (23002, 58002), (23003, 58003)] [0, 3, 5, 6] [4, 23000, 23001, 23002, 23003, 6] (v_st7 R sp) (v_st7 R sp) N E (sf7 R sp f i) := by
  unfold sf7
  rw [e7r_1]
  obtain ⟨el, hw, hn⟩ := okZ_spec hR
  have hll : i < (toZ R).length := by rw [toZ_len]; exact hi
  have hj1 : isJ [IntKind.i64] (R.getD i []) = true := by
    rw [el]; exact isJ_mZ (j := 0) (n := 1) hw hll (by omega)
  have wi : IntKind.wrap .i64 ((i : Int) + 1) = ((i + 1 : Nat) : Int) := wrap_nat (n := 1) (by omega)
  have hi3 : (i : Int) < 40 := by omega
  have hk3 : band 1 3 = 1 := by rw [mask2]; rfl
  have hc : ∀ j, cut (rw4 f j) 0 4 = rw4 f j := fun j => rfl
  have hl4 : ∀ j, (rw4 f j).length = 4 := fun j => rfl
  have hA : okA (rw4 f 0) (rw4 f 4) (rw4 f 8) (rw4 f 12) = true := rfl
  have hC : okC4 (rw4 f 0) (rw4 f 4) (rw4 f 8) (rw4 f 12) = true := rfl
  have hv : val8 (band (Int.fdiv (hdJ (R.getD i [])) 16) 255) = true := by
    rw [mask8]; unfold val8 upto; simp; omega
  simp only [Int.ofNat_lt, hi, hi3, decide_true, cond_true, Int.natCast_nonneg, Bool.and_self, Int.toNat_natCast, List.drop_zero, hj1, hk, hk3, hc, hl4, hA, hC, Nat.zero_add, Nat.le_refl, true_and, wi]
  intro P0 P1 P2 P3 e hp
  have hok := pok4 hf 0 1 _ hv rfl
  unfold putR at hp
  rw [hok] at hp
  obtain ⟨rfl, rfl, rfl, rfl, rfl⟩ := hp
  have hq : (pe true != 0) = false := rfl
  rw [hq, cond_false]
  exact h _ hv
theorem e7r_2 (an : Int → Int → Int) (R sp : List (List D)) (i : Int) (n0 : Nat) (m0 : Nat) (n1 : Nat) (m1 : Nat) (n2 : Nat) (m2 : Nat) (n3 : Nat) (m3 : Nat) (P0 : List (List D)) (P1 : List (List D)) (P2 : List (List D)) (P3 : List (List D)) (w0 : Int) (w1 : Int) (w2 : Int) (w3 : Int) (w4 : Int) (w5 : Int) (w6 : Int) (w7 : Int) (w8 : Int) (w9 : Int) (w10 : Int) (w11 : Int) (w12 : Int) (w13 : Int) (w14 : Int) (w15 : Int) (N : X → Prop) (E : Exit → X → Prop) : (roundW Try.prog (gK an [(43, 2), (55, 2)] [(22, sGetC), (24, sPutC), (27, sI)]) Try.f7 0 [(23000, 58000), (23001, 58001), (23002, 58002), (23003, 58003)] [0, 3, 5, 6] [4, 23000, 23001, 23002, 23003, 6] (v_st7 R sp) (v_st7 R sp) N E (st7 R sp i n0 m0 n1 m1 n2 m2 n3 m3 P0 P1 P2 P3 w0 w1 w2 w3 w4 w5 w6 w7 w8 w9 w10 w11 w12 w13 w14 w15)) = (bif decide (i < @Nat.cast Int _ (List.length R)) then bif decide (i < 40) then bif decide (0 ≤ i) && decide (i < @Nat.cast Int _ (List.length R)) then bif isJ [IntKind.i64] (List.drop (0) (List.getD R (Int.toNat i) [])) then an (hdJ (List.drop (0) (List.getD R (Int.toNat i) []))) (15) = 2 ∧ bif decide (0 ≤ i) && decide (i < @Nat.cast Int _ (List.length R)) then bif isJ [IntKind.i64] (List.drop (0) (List.getD R (Int.toNat i) [])) then an (2) (3) = 2 ∧ bif decide (0 + n0 ≤ List.length P0) then bif decide (0 + n1 ≤ List.length P1) then bif decide (0 + n2 ≤ List.length P2) then bif decide (0 + n3 ≤ List.length P3) then bif okA (cut P0 (0) n0) (cut P1 (0) n1) (cut P2 (0) n2) (cut P3 (0) n3) && okC4 (cut P0 (0) n0) (cut P1 (0) n1) (cut P2 (0) n2) (cut P3 (0) n3) then ∀ (P0_1 P1_1 P2_1 P3_1 : List (List D)) (e : Int), putR (cut P0 (0) n0) (cut P1 (0) n1) (cut P2 (0) n2) (cut P3 (0) n3) (0) (2) (an (Int.fdiv (hdJ (List.drop (0) (List.getD R (Int.toNat i) []))) (16)) (255)) (0) (0) P0_1 P1_1 P2_1 P3_1 e → bif e != 0 then st7 R sp i n0 m0 n1 m1 n2 m2 n3 m3 P0 P1 P2 P3 w0 w1 w2 w3 w4 w5 w6 w7 w8 w9 w10 w11 w12 w13 w14 w15 = st7 R sp i n0 m0 n1 m1 n2 m2 n3 m3 P0 P1 P2 P3 w0 w1 w2 w3 w4 w5 w6 w7 w8 w9 w10 w11 w12 w13 w14 w15 ∧ E Exit.ret (st7 R sp i n0 m0 n1 m1 n2 m2 n3 m3 P0 P1 P2 P3 w0 w1 w2 w3 w4 w5 w6 w7 w8 w9 w10 w11 w12 w13 w14 w15) else st7 R sp (IntKind.wrap IntKind.i64 (i + 1)) (List.length P0_1) (List.length P0_1 + 0) (List.length P1_1) (List.length P1_1 + 0) (List.length P2_1) (List.length P2_1 + 0) (List.length P3_1) (List.length P3_1 + 0) (P0_1 ++ []) (P1_1 ++ []) (P2_1 ++ []) (P3_1 ++ []) w0 w1 (an (Int.fdiv (hdJ (List.drop (0) (List.getD R (Int.toNat i) []))) (16)) (255)) w3 w4 w5 w6 w7 w8 w9 w10 w11 w12 w13 w14 w15 = st7 R sp (IntKind.wrap IntKind.i64 (i + 1)) (List.length P0_1) (List.length P0_1 + 0) (List.length P1_1) (List.length P1_1 + 0) (List.length P2_1) (List.length P2_1 + 0) (List.length P3_1) (List.length P3_1 + 0) (P0_1 ++ []) (P1_1 ++ []) (P2_1 ++ []) (P3_1 ++ []) w0 w1 (an (Int.fdiv (hdJ (List.drop (0) (List.getD R (Int.toNat i) []))) (16)) (255)) w3 w4 w5 w6 w7 w8 w9 w10 w11 w12 w13 w14 w15 ∧ N (st7 R sp (IntKind.wrap IntKind.i64 (i + 1)) (List.length P0_1) (List.length P0_1 + 0) (List.length P1_1) (List.length P1_1 + 0) (List.length P2_1) (List.length P2_1 + 0) (List.length P3_1) (List.length P3_1 + 0) (P0_1 ++ []) (P1_1 ++ []) (P2_1 ++ []) (P3_1 ++ []) w0 w1 (an (Int.fdiv (hdJ (List.drop (0) (List.getD R (Int.toNat i) []))) (16)) (255)) w3 w4 w5 w6 w7 w8 w9 w10 w11 w12 w13 w14 w15) else False else False else False else False else False else False else False else False else False else st7 R sp i n0 m0 n1 m1 n2 m2 n3 m3 P0 P1 P2 P3 w0 w1 w2 w3 w4 w5 w6 w7 w8 w9 w10 w11 w12 w13 w14 w15 = st7 R sp i n0 m0 n1 m1 n2 m2 n3 m3 P0 P1 P2 P3 w0 w1 w2 w3 w4 w5 w6 w7 w8 w9 w10 w11 w12 w13 w14 w15 ∧ E (Exit.exit (0)) (st7 R sp i n0 m0 n1 m1 n2 m2 n3 m3 P0 P1 P2 P3 w0 w1 w2 w3 w4 w5 w6 w7 w8 w9 w10 w11 w12 w13 w14 w15) else st7 R sp i n0 m0 n1 m1 n2 m2 n3 m3 P0 P1 P2 P3 w0 w1 w2 w3 w4 w5 w6 w7 w8 w9 w10 w11 w12 w13 w14 w15 = st7 R sp i n0 m0 n1 m1 n2 m2 n3 m3 P0 P1 P2 P3 w0 w1 w2 w3 w4 w5 w6 w7 w8 w9 w10 w11 w12 w13 w14 w15 ∧ E (Exit.exit (0)) (st7 R sp i n0 m0 n1 m1 n2 m2 n3 m3 P0 P1 P2 P3 w0 w1 w2 w3 w4 w5 w6 w7 w8 w9 w10 w11 w12 w13 w14 w15)) := by kernel_rfl
theorem r7_2 {R sp : List (List D)} {f : Nat → Int} {i : Nat} (hR : okZ 1 R = true) (hf : ∀ n, val8 (f n) = true) (hi : i < R.length) (hi2 : i < 40) (hk : band (hdJ (R.getD i [])) 15 = 2) {N : X → Prop} {E : Exit → X → Prop}
    (h : ∀ v, val8 v = true → N (sf7 R sp (upd f 2 v) ((i + 1 : Nat) : Int))) : roundW Try.prog (gK band [(43, 2), (55, 2)] [(22, sGetC), (24, sPutC), (27, sI)]) Try.f7 0 [(23000, 58000), (23001, 58001), (23002, 58002), (23003, 58003)] [0, 3, 5, 6] [4, 23000, 23001, 23002, 23003, 6] (v_st7 R sp) (v_st7 R sp) N E (sf7 R sp f i) := by
  unfold sf7
  rw [e7r_2]
  obtain ⟨el, hw, hn⟩ := okZ_spec hR
  have hll : i < (toZ R).length := by rw [toZ_len]; exact hi
  have hj1 : isJ [IntKind.i64] (R.getD i []) = true := by
    rw [el]; exact isJ_mZ (j := 0) (n := 1) hw hll (by omega)
  have wi : IntKind.wrap .i64 ((i : Int) + 1) = ((i + 1 : Nat) : Int) := wrap_nat (n := 1) (by omega)
  have hi3 : (i : Int) < 40 := by omega
  have hk3 : band 2 3 = 2 := by rw [mask2]; rfl
  have hc : ∀ j, cut (rw4 f j) 0 4 = rw4 f j := fun j => rfl
  have hl4 : ∀ j, (rw4 f j).length = 4 := fun j => rfl
  have hA : okA (rw4 f 0) (rw4 f 4) (rw4 f 8) (rw4 f 12) = true := rfl
  have hC : okC4 (rw4 f 0) (rw4 f 4) (rw4 f 8) (rw4 f 12) = true := rfl
  have hv : val8 (band (Int.fdiv (hdJ (R.getD i [])) 16) 255) = true := by
    rw [mask8]; unfold val8 upto; simp; omega
  simp only [Int.ofNat_lt, hi, hi3, decide_true, cond_true, Int.natCast_nonneg, Bool.and_self, Int.toNat_natCast, List.drop_zero, hj1, hk, hk3, hc, hl4, hA, hC, Nat.zero_add, Nat.le_refl, true_and, wi]
  intro P0 P1 P2 P3 e hp
  have hok := pok4 hf 0 2 _ hv rfl
  unfold putR at hp
  rw [hok] at hp
  obtain ⟨rfl, rfl, rfl, rfl, rfl⟩ := hp
  have hq : (pe true != 0) = false := rfl
  rw [hq, cond_false]
  exact h _ hv
theorem e7r_3 (an : Int → Int → Int) (R sp : List (List D)) (i : Int) (n0 : Nat) (m0 : Nat) (n1 : Nat) (m1 : Nat) (n2 : Nat) (m2 : Nat) (n3 : Nat) (m3 : Nat) (P0 : List (List D)) (P1 : List (List D)) (P2 : List (List D)) (P3 : List (List D)) (w0 : Int) (w1 : Int) (w2 : Int) (w3 : Int) (w4 : Int) (w5 : Int) (w6 : Int) (w7 : Int) (w8 : Int) (w9 : Int) (w10 : Int) (w11 : Int) (w12 : Int) (w13 : Int) (w14 : Int) (w15 : Int) (N : X → Prop) (E : Exit → X → Prop) : (roundW Try.prog (gK an [(43, 3), (55, 3)] [(22, sGetC), (24, sPutC), (27, sI)]) Try.f7 0 [(23000, 58000), (23001, 58001), (23002, 58002), (23003, 58003)] [0, 3, 5, 6] [4, 23000, 23001, 23002, 23003, 6] (v_st7 R sp) (v_st7 R sp) N E (st7 R sp i n0 m0 n1 m1 n2 m2 n3 m3 P0 P1 P2 P3 w0 w1 w2 w3 w4 w5 w6 w7 w8 w9 w10 w11 w12 w13 w14 w15)) = (bif decide (i < @Nat.cast Int _ (List.length R)) then bif decide (i < 40) then bif decide (0 ≤ i) && decide (i < @Nat.cast Int _ (List.length R)) then bif isJ [IntKind.i64] (List.drop (0) (List.getD R (Int.toNat i) [])) then an (hdJ (List.drop (0) (List.getD R (Int.toNat i) []))) (15) = 3 ∧ bif decide (0 ≤ i) && decide (i < @Nat.cast Int _ (List.length R)) then bif isJ [IntKind.i64] (List.drop (0) (List.getD R (Int.toNat i) [])) then an (3) (3) = 3 ∧ bif decide (0 + n0 ≤ List.length P0) then bif decide (0 + n1 ≤ List.length P1) then bif decide (0 + n2 ≤ List.length P2) then bif decide (0 + n3 ≤ List.length P3) then bif okA (cut P0 (0) n0) (cut P1 (0) n1) (cut P2 (0) n2) (cut P3 (0) n3) && okC4 (cut P0 (0) n0) (cut P1 (0) n1) (cut P2 (0) n2) (cut P3 (0) n3) then ∀ (P0_1 P1_1 P2_1 P3_1 : List (List D)) (e : Int), putR (cut P0 (0) n0) (cut P1 (0) n1) (cut P2 (0) n2) (cut P3 (0) n3) (0) (3) (an (Int.fdiv (hdJ (List.drop (0) (List.getD R (Int.toNat i) []))) (16)) (255)) (0) (0) P0_1 P1_1 P2_1 P3_1 e → bif e != 0 then st7 R sp i n0 m0 n1 m1 n2 m2 n3 m3 P0 P1 P2 P3 w0 w1 w2 w3 w4 w5 w6 w7 w8 w9 w10 w11 w12 w13 w14 w15 = st7 R sp i n0 m0 n1 m1 n2 m2 n3 m3 P0 P1 P2 P3 w0 w1 w2 w3 w4 w5 w6 w7 w8 w9 w10 w11 w12 w13 w14 w15 ∧ E Exit.ret (st7 R sp i n0 m0 n1 m1 n2 m2 n3 m3 P0 P1 P2 P3 w0 w1 w2 w3 w4 w5 w6 w7 w8 w9 w10 w11 w12 w13 w14 w15) else st7 R sp (IntKind.wrap IntKind.i64 (i + 1)) (List.length P0_1) (List.length P0_1 + 0) (List.length P1_1) (List.length P1_1 + 0) (List.length P2_1) (List.length P2_1 + 0) (List.length P3_1) (List.length P3_1 + 0) (P0_1 ++ []) (P1_1 ++ []) (P2_1 ++ []) (P3_1 ++ []) w0 w1 w2 (an (Int.fdiv (hdJ (List.drop (0) (List.getD R (Int.toNat i) []))) (16)) (255)) w4 w5 w6 w7 w8 w9 w10 w11 w12 w13 w14 w15 = st7 R sp (IntKind.wrap IntKind.i64 (i + 1)) (List.length P0_1) (List.length P0_1 + 0) (List.length P1_1) (List.length P1_1 + 0) (List.length P2_1) (List.length P2_1 + 0) (List.length P3_1) (List.length P3_1 + 0) (P0_1 ++ []) (P1_1 ++ []) (P2_1 ++ []) (P3_1 ++ []) w0 w1 w2 (an (Int.fdiv (hdJ (List.drop (0) (List.getD R (Int.toNat i) []))) (16)) (255)) w4 w5 w6 w7 w8 w9 w10 w11 w12 w13 w14 w15 ∧ N (st7 R sp (IntKind.wrap IntKind.i64 (i + 1)) (List.length P0_1) (List.length P0_1 + 0) (List.length P1_1) (List.length P1_1 + 0) (List.length P2_1) (List.length P2_1 + 0) (List.length P3_1) (List.length P3_1 + 0) (P0_1 ++ []) (P1_1 ++ []) (P2_1 ++ []) (P3_1 ++ []) w0 w1 w2 (an (Int.fdiv (hdJ (List.drop (0) (List.getD R (Int.toNat i) []))) (16)) (255)) w4 w5 w6 w7 w8 w9 w10 w11 w12 w13 w14 w15) else False else False else False else False else False else False else False else False else False else st7 R sp i n0 m0 n1 m1 n2 m2 n3 m3 P0 P1 P2 P3 w0 w1 w2 w3 w4 w5 w6 w7 w8 w9 w10 w11 w12 w13 w14 w15 = st7 R sp i n0 m0 n1 m1 n2 m2 n3 m3 P0 P1 P2 P3 w0 w1 w2 w3 w4 w5 w6 w7 w8 w9 w10 w11 w12 w13 w14 w15 ∧ E (Exit.exit (0)) (st7 R sp i n0 m0 n1 m1 n2 m2 n3 m3 P0 P1 P2 P3 w0 w1 w2 w3 w4 w5 w6 w7 w8 w9 w10 w11 w12 w13 w14 w15) else st7 R sp i n0 m0 n1 m1 n2 m2 n3 m3 P0 P1 P2 P3 w0 w1 w2 w3 w4 w5 w6 w7 w8 w9 w10 w11 w12 w13 w14 w15 = st7 R sp i n0 m0 n1 m1 n2 m2 n3 m3 P0 P1 P2 P3 w0 w1 w2 w3 w4 w5 w6 w7 w8 w9 w10 w11 w12 w13 w14 w15 ∧ E (Exit.exit (0)) (st7 R sp i n0 m0 n1 m1 n2 m2 n3 m3 P0 P1 P2 P3 w0 w1 w2 w3 w4 w5 w6 w7 w8 w9 w10 w11 w12 w13 w14 w15)) := by kernel_rfl
theorem r7_3 {R sp : List (List D)} {f : Nat → Int} {i : Nat} (hR : okZ 1 R = true) (hf : ∀ n, val8 (f n) = true) (hi : i < R.length) (hi2 : i < 40) (hk : band (hdJ (R.getD i [])) 15 = 3) {N : X → Prop} {E : Exit → X → Prop}
    (h : ∀ v, val8 v = true → N (sf7 R sp (upd f 3 v) ((i + 1 : Nat) : Int))) : roundW Try.prog (gK band [(43, 3), (55, 3)] [(22, sGetC), (24, sPutC), (27, sI)]) Try.f7 0 [(23000, 58000), (23001, 58001), (23002, 58002), (23003, 58003)] [0, 3, 5, 6] [4, 23000, 23001, 23002, 23003, 6] (v_st7 R sp) (v_st7 R sp) N E (sf7 R sp f i) := by
  unfold sf7
  rw [e7r_3]
  obtain ⟨el, hw, hn⟩ := okZ_spec hR
  have hll : i < (toZ R).length := by rw [toZ_len]; exact hi
  have hj1 : isJ [IntKind.i64] (R.getD i []) = true := by
    rw [el]; exact isJ_mZ (j := 0) (n := 1) hw hll (by omega)
  have wi : IntKind.wrap .i64 ((i : Int) + 1) = ((i + 1 : Nat) : Int) := wrap_nat (n := 1) (by omega)
  have hi3 : (i : Int) < 40 := by omega
  have hk3 : band 3 3 = 3 := by rw [mask2]; rfl
  have hc : ∀ j, cut (rw4 f j) 0 4 = rw4 f j := fun j => rfl
  have hl4 : ∀ j, (rw4 f j).length = 4 := fun j => rfl
  have hA : okA (rw4 f 0) (rw4 f 4) (rw4 f 8) (rw4 f 12) = true := rfl
  have hC : okC4 (rw4 f 0) (rw4 f 4) (rw4 f 8) (rw4 f 12) = true := rfl
  have hv : val8 (band (Int.fdiv (hdJ (R.getD i [])) 16) 255) = true := by
    rw [mask8]; unfold val8 upto; simp; omega
  simp only [Int.ofNat_lt, hi, hi3, decide_true, cond_true, Int.natCast_nonneg, Bool.and_self, Int.toNat_natCast, List.drop_zero, hj1, hk, hk3, hc, hl4, hA, hC, Nat.zero_add, Nat.le_refl, true_and, wi]
  intro P0 P1 P2 P3 e hp
  have hok := pok4 hf 0 3 _ hv rfl
  unfold putR at hp
  rw [hok] at hp
  obtain ⟨rfl, rfl, rfl, rfl, rfl⟩ := hp
  have hq : (pe true != 0) = false := rfl
  rw [hq, cond_false]
  exact h _ hv
theorem e7r_4 (an : Int → Int → Int) (R sp : List (List D)) (i : Int) (n0 : Nat) (m0 : Nat) (n1 : Nat) (m1 : Nat) (n2 : Nat) (m2 : Nat) (n3 : Nat) (m3 : Nat) (P0 : List (List D)) (P1 : List (List D)) (P2 : List (List D)) (P3 : List (List D)) (w0 : Int) (w1 : Int) (w2 : Int) (w3 : Int) (w4 : Int) (w5 : Int) (w6 : Int) (w7 : Int) (w8 : Int) (w9 : Int) (w10 : Int) (w11 : Int) (w12 : Int) (w13 : Int) (w14 : Int) (w15 : Int) (N : X → Prop) (E : Exit → X → Prop) : (roundW Try.prog (gK an [(43, 4), (55, 0)] [(22, sGetC), (24, sPutC), (27, sI)]) Try.f7 0 [(23000, 58000), (23001, 58001), (23002, 58002), (23003, 58003)] [0, 3, 5, 6] [4, 23000, 23001, 23002, 23003, 6] (v_st7 R sp) (v_st7 R sp) N E (st7 R sp i n0 m0 n1 m1 n2 m2 n3 m3 P0 P1 P2 P3 w0 w1 w2 w3 w4 w5 w6 w7 w8 w9 w10 w11 w12 w13 w14 w15)) = (bif decide (i < @Nat.cast Int _ (List.length R)) then bif decide (i < 40) then bif decide (0 ≤ i) && decide (i < @Nat.cast Int _ (List.length R)) then bif isJ [IntKind.i64] (List.drop (0) (List.getD R (Int.toNat i) [])) then an (hdJ (List.drop (0) (List.getD R (Int.toNat i) []))) (15) = 4 ∧ bif decide (0 ≤ i) && decide (i < @Nat.cast Int _ (List.length R)) then bif isJ [IntKind.i64] (List.drop (0) (List.getD R (Int.toNat i) [])) then an (4) (3) = 0 ∧ bif decide (0 + n0 ≤ List.length P0) then bif decide (0 + n1 ≤ List.length P1) then bif decide (0 + n2 ≤ List.length P2) then bif decide (0 + n3 ≤ List.length P3) then bif okA (cut P0 (0) n0) (cut P1 (0) n1) (cut P2 (0) n2) (cut P3 (0) n3) && okC4 (cut P0 (0) n0) (cut P1 (0) n1) (cut P2 (0) n2) (cut P3 (0) n3) then ∀ (P0_1 P1_1 P2_1 P3_1 : List (List D)) (e : Int), putR (cut P0 (0) n0) (cut P1 (0) n1) (cut P2 (0) n2) (cut P3 (0) n3) (1) (0) (an (Int.fdiv (hdJ (List.drop (0) (List.getD R (Int.toNat i) []))) (16)) (255)) (0) (0) P0_1 P1_1 P2_1 P3_1 e → bif e != 0 then st7 R sp i n0 m0 n1 m1 n2 m2 n3 m3 P0 P1 P2 P3 w0 w1 w2 w3 w4 w5 w6 w7 w8 w9 w10 w11 w12 w13 w14 w15 = st7 R sp i n0 m0 n1 m1 n2 m2 n3 m3 P0 P1 P2 P3 w0 w1 w2 w3 w4 w5 w6 w7 w8 w9 w10 w11 w12 w13 w14 w15 ∧ E Exit.ret (st7 R sp i n0 m0 n1 m1 n2 m2 n3 m3 P0 P1 P2 P3 w0 w1 w2 w3 w4 w5 w6 w7 w8 w9 w10 w11 w12 w13 w14 w15) else st7 R sp (IntKind.wrap IntKind.i64 (i + 1)) (List.length P0_1) (List.length P0_1 + 0) (List.length P1_1) (List.length P1_1 + 0) (List.length P2_1) (List.length P2_1 + 0) (List.length P3_1) (List.length P3_1 + 0) (P0_1 ++ []) (P1_1 ++ []) (P2_1 ++ []) (P3_1 ++ []) w0 w1 w2 w3 (an (Int.fdiv (hdJ (List.drop (0) (List.getD R (Int.toNat i) []))) (16)) (255)) w5 w6 w7 w8 w9 w10 w11 w12 w13 w14 w15 = st7 R sp (IntKind.wrap IntKind.i64 (i + 1)) (List.length P0_1) (List.length P0_1 + 0) (List.length P1_1) (List.length P1_1 + 0) (List.length P2_1) (List.length P2_1 + 0) (List.length P3_1) (List.length P3_1 + 0) (P0_1 ++ []) (P1_1 ++ []) (P2_1 ++ []) (P3_1 ++ []) w0 w1 w2 w3 (an (Int.fdiv (hdJ (List.drop (0) (List.getD R (Int.toNat i) []))) (16)) (255)) w5 w6 w7 w8 w9 w10 w11 w12 w13 w14 w15 ∧ N (st7 R sp (IntKind.wrap IntKind.i64 (i + 1)) (List.length P0_1) (List.length P0_1 + 0) (List.length P1_1) (List.length P1_1 + 0) (List.length P2_1) (List.length P2_1 + 0) (List.length P3_1) (List.length P3_1 + 0) (P0_1 ++ []) (P1_1 ++ []) (P2_1 ++ []) (P3_1 ++ []) w0 w1 w2 w3 (an (Int.fdiv (hdJ (List.drop (0) (List.getD R (Int.toNat i) []))) (16)) (255)) w5 w6 w7 w8 w9 w10 w11 w12 w13 w14 w15) else False else False else False else False else False else False else False else False else False else st7 R sp i n0 m0 n1 m1 n2 m2 n3 m3 P0 P1 P2 P3 w0 w1 w2 w3 w4 w5 w6 w7 w8 w9 w10 w11 w12 w13 w14 w15 = st7 R sp i n0 m0 n1 m1 n2 m2 n3 m3 P0 P1 P2 P3 w0 w1 w2 w3 w4 w5 w6 w7 w8 w9 w10 w11 w12 w13 w14 w15 ∧ E (Exit.exit (0)) (st7 R sp i n0 m0 n1 m1 n2 m2 n3 m3 P0 P1 P2 P3 w0 w1 w2 w3 w4 w5 w6 w7 w8 w9 w10 w11 w12 w13 w14 w15) else st7 R sp i n0 m0 n1 m1 n2 m2 n3 m3 P0 P1 P2 P3 w0 w1 w2 w3 w4 w5 w6 w7 w8 w9 w10 w11 w12 w13 w14 w15 = st7 R sp i n0 m0 n1 m1 n2 m2 n3 m3 P0 P1 P2 P3 w0 w1 w2 w3 w4 w5 w6 w7 w8 w9 w10 w11 w12 w13 w14 w15 ∧ E (Exit.exit (0)) (st7 R sp i n0 m0 n1 m1 n2 m2 n3 m3 P0 P1 P2 P3 w0 w1 w2 w3 w4 w5 w6 w7 w8 w9 w10 w11 w12 w13 w14 w15)) := by kernel_rfl
theorem r7_4 {R sp : List (List D)} {f : Nat → Int} {i : Nat} (hR : okZ 1 R = true) (hf : ∀ n, val8 (f n) = true) (hi : i < R.length) (hi2 : i < 40) (hk : band (hdJ (R.getD i [])) 15 = 4) {N : X → Prop} {E : Exit → X → Prop}
    (h : ∀ v, val8 v = true → N (sf7 R sp (upd f 4 v) ((i + 1 : Nat) : Int))) : roundW Try.prog (gK band [(43, 4), (55, 0)] [(22, sGetC), (24, sPutC), (27, sI)]) Try.f7 0 [(23000, 58000), (23001, 58001), (23002, 58002), (23003, 58003)] [0, 3, 5, 6] [4, 23000, 23001, 23002, 23003, 6] (v_st7 R sp) (v_st7 R sp) N E (sf7 R sp f i) := by
  unfold sf7
  rw [e7r_4]
  obtain ⟨el, hw, hn⟩ := okZ_spec hR
  have hll : i < (toZ R).length := by rw [toZ_len]; exact hi
  have hj1 : isJ [IntKind.i64] (R.getD i []) = true := by
    rw [el]; exact isJ_mZ (j := 0) (n := 1) hw hll (by omega)
  have wi : IntKind.wrap .i64 ((i : Int) + 1) = ((i + 1 : Nat) : Int) := wrap_nat (n := 1) (by omega)
  have hi3 : (i : Int) < 40 := by omega
  have hk3 : band 4 3 = 0 := by rw [mask2]; rfl
  have hc : ∀ j, cut (rw4 f j) 0 4 = rw4 f j := fun j => rfl
  have hl4 : ∀ j, (rw4 f j).length = 4 := fun j => rfl
  have hA : okA (rw4 f 0) (rw4 f 4) (rw4 f 8) (rw4 f 12) = true := rfl
  have hC : okC4 (rw4 f 0) (rw4 f 4) (rw4 f 8) (rw4 f 12) = true := rfl
  have hv : val8 (band (Int.fdiv (hdJ (R.getD i [])) 16) 255) = true := by
    rw [mask8]; unfold val8 upto; simp; omega
  simp only [Int.ofNat_lt, hi, hi3, decide_true, cond_true, Int.natCast_nonneg, Bool.and_self, Int.toNat_natCast, List.drop_zero, hj1, hk, hk3, hc, hl4, hA, hC, Nat.zero_add, Nat.le_refl, true_and, wi]
  intro P0 P1 P2 P3 e hp
  have hok := pok4 hf 1 0 _ hv rfl
  unfold putR at hp
  rw [hok] at hp
  obtain ⟨rfl, rfl, rfl, rfl, rfl⟩ := hp
  have hq : (pe true != 0) = false := rfl
  rw [hq, cond_false]
  exact h _ hv
theorem e7r_5 (an : Int → Int → Int) (R sp : List (List D)) (i : Int) (n0 : Nat) (m0 : Nat) (n1 : Nat) (m1 : Nat) (n2 : Nat) (m2 : Nat) (n3 : Nat) (m3 : Nat) (P0 : List (List D)) (P1 : List (List D)) (P2 : List (List D)) (P3 : List (List D)) (w0 : Int) (w1 : Int) (w2 : Int) (w3 : Int) (w4 : Int) (w5 : Int) (w6 : Int) (w7 : Int) (w8 : Int) (w9 : Int) (w10 : Int) (w11 : Int) (w12 : Int) (w13 : Int) (w14 : Int) (w15 : Int) (N : X → Prop) (E : Exit → X → Prop) : (roundW Try.prog (gK an [(43, 5), (55, 1)] [(22, sGetC), (24, sPutC), (27, sI)]) Try.f7 0 [(23000, 58000), (23001, 58001), (23002, 58002), (23003, 58003)] [0, 3, 5, 6] [4, 23000, 23001, 23002, 23003, 6] (v_st7 R sp) (v_st7 R sp) N E (st7 R sp i n0 m0 n1 m1 n2 m2 n3 m3 P0 P1 P2 P3 w0 w1 w2 w3 w4 w5 w6 w7 w8 w9 w10 w11 w12 w13 w14 w15)) = (bif decide (i < @Nat.cast Int _ (List.length R)) then bif decide (i < 40) then bif decide (0 ≤ i) && decide (i < @Nat.cast Int _ (List.length R)) then bif isJ [IntKind.i64] (List.drop (0) (List.getD R (Int.toNat i) [])) then an (hdJ (List.drop (0) (List.getD R (Int.toNat i) []))) (15) = 5 ∧ bif decide (0 ≤ i) && decide (i < @Nat.cast Int _ (List.length R)) then bif isJ [IntKind.i64] (List.drop (0) (List.getD R (Int.toNat i) [])) then an (5) (3) = 1 ∧ bif decide (0 + n0 ≤ List.length P0) then bif decide (0 + n1 ≤ List.length P1) then bif decide (0 + n2 ≤ List.length P2) then bif decide (0 + n3 ≤ List.length P3) then bif okA (cut P0 (0) n0) (cut P1 (0) n1) (cut P2 (0) n2) (cut P3 (0) n3) && okC4 (cut P0 (0) n0) (cut P1 (0) n1) (cut P2 (0) n2) (cut P3 (0) n3) then ∀ (P0_1 P1_1 P2_1 P3_1 : List (List D)) (e : Int), putR (cut P0 (0) n0) (cut P1 (0) n1) (cut P2 (0) n2) (cut P3 (0) n3) (1) (1) (an (Int.fdiv (hdJ (List.drop (0) (List.getD R (Int.toNat i) []))) (16)) (255)) (0) (0) P0_1 P1_1 P2_1 P3_1 e → bif e != 0 then st7 R sp i n0 m0 n1 m1 n2 m2 n3 m3 P0 P1 P2 P3 w0 w1 w2 w3 w4 w5 w6 w7 w8 w9 w10 w11 w12 w13 w14 w15 = st7 R sp i n0 m0 n1 m1 n2 m2 n3 m3 P0 P1 P2 P3 w0 w1 w2 w3 w4 w5 w6 w7 w8 w9 w10 w11 w12 w13 w14 w15 ∧ E Exit.ret (st7 R sp i n0 m0 n1 m1 n2 m2 n3 m3 P0 P1 P2 P3 w0 w1 w2 w3 w4 w5 w6 w7 w8 w9 w10 w11 w12 w13 w14 w15) else st7 R sp (IntKind.wrap IntKind.i64 (i + 1)) (List.length P0_1) (List.length P0_1 + 0) (List.length P1_1) (List.length P1_1 + 0) (List.length P2_1) (List.length P2_1 + 0) (List.length P3_1) (List.length P3_1 + 0) (P0_1 ++ []) (P1_1 ++ []) (P2_1 ++ []) (P3_1 ++ []) w0 w1 w2 w3 w4 (an (Int.fdiv (hdJ (List.drop (0) (List.getD R (Int.toNat i) []))) (16)) (255)) w6 w7 w8 w9 w10 w11 w12 w13 w14 w15 = st7 R sp (IntKind.wrap IntKind.i64 (i + 1)) (List.length P0_1) (List.length P0_1 + 0) (List.length P1_1) (List.length P1_1 + 0) (List.length P2_1) (List.length P2_1 + 0) (List.length P3_1) (List.length P3_1 + 0) (P0_1 ++ []) (P1_1 ++ []) (P2_1 ++ []) (P3_1 ++ []) w0 w1 w2 w3 w4 (an (Int.fdiv (hdJ (List.drop (0) (List.getD R (Int.toNat i) []))) (16)) (255)) w6 w7 w8 w9 w10 w11 w12 w13 w14 w15 ∧ N (st7 R sp (IntKind.wrap IntKind.i64 (i + 1)) (List.length P0_1) (List.length P0_1 + 0) (List.length P1_1) (List.length P1_1 + 0) (List.length P2_1) (List.length P2_1 + 0) (List.length P3_1) (List.length P3_1 + 0) (P0_1 ++ []) (P1_1 ++ []) (P2_1 ++ []) (P3_1 ++ []) w0 w1 w2 w3 w4 (an (Int.fdiv (hdJ (List.drop (0) (List.getD R (Int.toNat i) []))) (16)) (255)) w6 w7 w8 w9 w10 w11 w12 w13 w14 w15) else False else False else False else False else False else False else False else False else False else st7 R sp i n0 m0 n1 m1 n2 m2 n3 m3 P0 P1 P2 P3 w0 w1 w2 w3 w4 w5 w6 w7 w8 w9 w10 w11 w12 w13 w14 w15 = st7 R sp i n0 m0 n1 m1 n2 m2 n3 m3 P0 P1 P2 P3 w0 w1 w2 w3 w4 w5 w6 w7 w8 w9 w10 w11 w12 w13 w14 w15 ∧ E (Exit.exit (0)) (st7 R sp i n0 m0 n1 m1 n2 m2 n3 m3 P0 P1 P2 P3 w0 w1 w2 w3 w4 w5 w6 w7 w8 w9 w10 w11 w12 w13 w14 w15) else st7 R sp i n0 m0 n1 m1 n2 m2 n3 m3 P0 P1 P2 P3 w0 w1 w2 w3 w4 w5 w6 w7 w8 w9 w10 w11 w12 w13 w14 w15 = st7 R sp i n0 m0 n1 m1 n2 m2 n3 m3 P0 P1 P2 P3 w0 w1 w2 w3 w4 w5 w6 w7 w8 w9 w10 w11 w12 w13 w14 w15 ∧ E (Exit.exit (0)) (st7 R sp i n0 m0 n1 m1 n2 m2 n3 m3 P0 P1 P2 P3 w0 w1 w2 w3 w4 w5 w6 w7 w8 w9 w10 w11 w12 w13 w14 w15)) := by kernel_rfl
theorem r7_5 {R sp : List (List D)} {f : Nat → Int} {i : Nat} (hR : okZ 1 R = true) (hf : ∀ n, val8 (f n) = true) (hi : i < R.length) (hi2 : i < 40) (hk : band (hdJ (R.getD i [])) 15 = 5) {N : X → Prop} {E : Exit → X → Prop}
    (h : ∀ v, val8 v = true → N (sf7 R sp (upd f 5 v) ((i + 1 : Nat) : Int))) : roundW Try.prog (gK band [(43, 5), (55, 1)] [(22, sGetC), (24, sPutC), (27, sI)]) Try.f7 0 [(23000, 58000), (23001, 58001), (23002, 58002), (23003, 58003)] [0, 3, 5, 6] [4, 23000, 23001, 23002, 23003, 6] (v_st7 R sp) (v_st7 R sp) N E (sf7 R sp f i) := by
  unfold sf7
  rw [e7r_5]
  obtain ⟨el, hw, hn⟩ := okZ_spec hR
  have hll : i < (toZ R).length := by rw [toZ_len]; exact hi
  have hj1 : isJ [IntKind.i64] (R.getD i []) = true := by
    rw [el]; exact isJ_mZ (j := 0) (n := 1) hw hll (by omega)
  have wi : IntKind.wrap .i64 ((i : Int) + 1) = ((i + 1 : Nat) : Int) := wrap_nat (n := 1) (by omega)
  have hi3 : (i : Int) < 40 := by omega
  have hk3 : band 5 3 = 1 := by rw [mask2]; rfl
  have hc : ∀ j, cut (rw4 f j) 0 4 = rw4 f j := fun j => rfl
  have hl4 : ∀ j, (rw4 f j).length = 4 := fun j => rfl
  have hA : okA (rw4 f 0) (rw4 f 4) (rw4 f 8) (rw4 f 12) = true := rfl
  have hC : okC4 (rw4 f 0) (rw4 f 4) (rw4 f 8) (rw4 f 12) = true := rfl
  have hv : val8 (band (Int.fdiv (hdJ (R.getD i [])) 16) 255) = true := by
    rw [mask8]; unfold val8 upto; simp; omega
  simp only [Int.ofNat_lt, hi, hi3, decide_true, cond_true, Int.natCast_nonneg, Bool.and_self, Int.toNat_natCast, List.drop_zero, hj1, hk, hk3, hc, hl4, hA, hC, Nat.zero_add, Nat.le_refl, true_and, wi]
  intro P0 P1 P2 P3 e hp
  have hok := pok4 hf 1 1 _ hv rfl
  unfold putR at hp
  rw [hok] at hp
  obtain ⟨rfl, rfl, rfl, rfl, rfl⟩ := hp
  have hq : (pe true != 0) = false := rfl
  rw [hq, cond_false]
  exact h _ hv
theorem e7r_6 (an : Int → Int → Int) (R sp : List (List D)) (i : Int) (n0 : Nat) (m0 : Nat) (n1 : Nat) (m1 : Nat) (n2 : Nat) (m2 : Nat) (n3 : Nat) (m3 : Nat) (P0 : List (List D)) (P1 : List (List D)) (P2 : List (List D)) (P3 : List (List D)) (w0 : Int) (w1 : Int) (w2 : Int) (w3 : Int) (w4 : Int) (w5 : Int) (w6 : Int) (w7 : Int) (w8 : Int) (w9 : Int) (w10 : Int) (w11 : Int) (w12 : Int) (w13 : Int) (w14 : Int) (w15 : Int) (N : X → Prop) (E : Exit → X → Prop) : (roundW Try.prog (gK an [(43, 6), (55, 2)] [(22, sGetC), (24, sPutC), (27, sI)]) Try.f7 0 [(23000, 58000), (23001, 58001), (23002, 58002), (23003, 58003)] [0, 3, 5, 6] [4, 23000, 23001, 23002, 23003, 6] (v_st7 R sp) (v_st7 R sp) N E (st7 R sp i n0 m0 n1 m1 n2 m2 n3 m3 P0 P1 P2 P3 w0 w1 w2 w3 w4 w5 w6 w7 w8 w9 w10 w11 w12 w13 w14 w15)) = (bif decide (i < @Nat.cast Int _ (List.length R)) then bif decide (i < 40) then bif decide (0 ≤ i) && decide (i < @Nat.cast Int _ (List.length R)) then bif isJ [IntKind.i64] (List.drop (0) (List.getD R (Int.toNat i) [])) then an (hdJ (List.drop (0) (List.getD R (Int.toNat i) []))) (15) = 6 ∧ bif decide (0 ≤ i) && decide (i < @Nat.cast Int _ (List.length R)) then bif isJ [IntKind.i64] (List.drop (0) (List.getD R (Int.toNat i) [])) then an (6) (3) = 2 ∧ bif decide (0 + n0 ≤ List.length P0) then bif decide (0 + n1 ≤ List.length P1) then bif decide (0 + n2 ≤ List.length P2) then bif decide (0 + n3 ≤ List.length P3) then bif okA (cut P0 (0) n0) (cut P1 (0) n1) (cut P2 (0) n2) (cut P3 (0) n3) && okC4 (cut P0 (0) n0) (cut P1 (0) n1) (cut P2 (0) n2) (cut P3 (0) n3) then ∀ (P0_1 P1_1 P2_1 P3_1 : List (List D)) (e : Int), putR (cut P0 (0) n0) (cut P1 (0) n1) (cut P2 (0) n2) (cut P3 (0) n3) (1) (2) (an (Int.fdiv (hdJ (List.drop (0) (List.getD R (Int.toNat i) []))) (16)) (255)) (0) (0) P0_1 P1_1 P2_1 P3_1 e → bif e != 0 then st7 R sp i n0 m0 n1 m1 n2 m2 n3 m3 P0 P1 P2 P3 w0 w1 w2 w3 w4 w5 w6 w7 w8 w9 w10 w11 w12 w13 w14 w15 = st7 R sp i n0 m0 n1 m1 n2 m2 n3 m3 P0 P1 P2 P3 w0 w1 w2 w3 w4 w5 w6 w7 w8 w9 w10 w11 w12 w13 w14 w15 ∧ E Exit.ret (st7 R sp i n0 m0 n1 m1 n2 m2 n3 m3 P0 P1 P2 P3 w0 w1 w2 w3 w4 w5 w6 w7 w8 w9 w10 w11 w12 w13 w14 w15) else st7 R sp (IntKind.wrap IntKind.i64 (i + 1)) (List.length P0_1) (List.length P0_1 + 0) (List.length P1_1) (List.length P1_1 + 0) (List.length P2_1) (List.length P2_1 + 0) (List.length P3_1) (List.length P3_1 + 0) (P0_1 ++ []) (P1_1 ++ []) (P2_1 ++ []) (P3_1 ++ []) w0 w1 w2 w3 w4 w5 (an (Int.fdiv (hdJ (List.drop (0) (List.getD R (Int.toNat i) []))) (16)) (255)) w7 w8 w9 w10 w11 w12 w13 w14 w15 = st7 R sp (IntKind.wrap IntKind.i64 (i + 1)) (List.length P0_1) (List.length P0_1 + 0) (List.length P1_1) (List.length P1_1 + 0) (List.length P2_1) (List.length P2_1 + 0) (List.length P3_1) (List.length P3_1 + 0) (P0_1 ++ []) (P1_1 ++ []) (P2_1 ++ []) (P3_1 ++ []) w0 w1 w2 w3 w4 w5 (an (Int.fdiv (hdJ (List.drop (0) (List.getD R (Int.toNat i) []))) (16)) (255)) w7 w8 w9 w10 w11 w12 w13 w14 w15 ∧ N (st7 R sp (IntKind.wrap IntKind.i64 (i + 1)) (List.length P0_1) (List.length P0_1 + 0) (List.length P1_1) (List.length P1_1 + 0) (List.length P2_1) (List.length P2_1 + 0) (List.length P3_1) (List.length P3_1 + 0) (P0_1 ++ []) (P1_1 ++ []) (P2_1 ++ []) (P3_1 ++ []) w0 w1 w2 w3 w4 w5 (an (Int.fdiv (hdJ (List.drop (0) (List.getD R (Int.toNat i) []))) (16)) (255)) w7 w8 w9 w10 w11 w12 w13 w14 w15) else False else False else False else False else False else False else False else False else False else st7 R sp i n0 m0 n1 m1 n2 m2 n3 m3 P0 P1 P2 P3 w0 w1 w2 w3 w4 w5 w6 w7 w8 w9 w10 w11 w12 w13 w14 w15 = st7 R sp i n0 m0 n1 m1 n2 m2 n3 m3 P0 P1 P2 P3 w0 w1 w2 w3 w4 w5 w6 w7 w8 w9 w10 w11 w12 w13 w14 w15 ∧ E (Exit.exit (0)) (st7 R sp i n0 m0 n1 m1 n2 m2 n3 m3 P0 P1 P2 P3 w0 w1 w2 w3 w4 w5 w6 w7 w8 w9 w10 w11 w12 w13 w14 w15) else st7 R sp i n0 m0 n1 m1 n2 m2 n3 m3 P0 P1 P2 P3 w0 w1 w2 w3 w4 w5 w6 w7 w8 w9 w10 w11 w12 w13 w14 w15 = st7 R sp i n0 m0 n1 m1 n2 m2 n3 m3 P0 P1 P2 P3 w0 w1 w2 w3 w4 w5 w6 w7 w8 w9 w10 w11 w12 w13 w14 w15 ∧ E (Exit.exit (0)) (st7 R sp i n0 m0 n1 m1 n2 m2 n3 m3 P0 P1 P2 P3 w0 w1 w2 w3 w4 w5 w6 w7 w8 w9 w10 w11 w12 w13 w14 w15)) := by kernel_rfl
theorem r7_6 {R sp : List (List D)} {f : Nat → Int} {i : Nat} (hR : okZ 1 R = true) (hf : ∀ n, val8 (f n) = true) (hi : i < R.length) (hi2 : i < 40) (hk : band (hdJ (R.getD i [])) 15 = 6) {N : X → Prop} {E : Exit → X → Prop}
    (h : ∀ v, val8 v = true → N (sf7 R sp (upd f 6 v) ((i + 1 : Nat) : Int))) : roundW Try.prog (gK band [(43, 6), (55, 2)] [(22, sGetC), (24, sPutC), (27, sI)]) Try.f7 0 [(23000, 58000), (23001, 58001), (23002, 58002), (23003, 58003)] [0, 3, 5, 6] [4, 23000, 23001, 23002, 23003, 6] (v_st7 R sp) (v_st7 R sp) N E (sf7 R sp f i) := by
  unfold sf7
  rw [e7r_6]
  obtain ⟨el, hw, hn⟩ := okZ_spec hR
  have hll : i < (toZ R).length := by rw [toZ_len]; exact hi
  have hj1 : isJ [IntKind.i64] (R.getD i []) = true := by
    rw [el]; exact isJ_mZ (j := 0) (n := 1) hw hll (by omega)
  have wi : IntKind.wrap .i64 ((i : Int) + 1) = ((i + 1 : Nat) : Int) := wrap_nat (n := 1) (by omega)
  have hi3 : (i : Int) < 40 := by omega
  have hk3 : band 6 3 = 2 := by rw [mask2]; rfl
  have hc : ∀ j, cut (rw4 f j) 0 4 = rw4 f j := fun j => rfl
  have hl4 : ∀ j, (rw4 f j).length = 4 := fun j => rfl
  have hA : okA (rw4 f 0) (rw4 f 4) (rw4 f 8) (rw4 f 12) = true := rfl
  have hC : okC4 (rw4 f 0) (rw4 f 4) (rw4 f 8) (rw4 f 12) = true := rfl
  have hv : val8 (band (Int.fdiv (hdJ (R.getD i [])) 16) 255) = true := by
    rw [mask8]; unfold val8 upto; simp; omega
  simp only [Int.ofNat_lt, hi, hi3, decide_true, cond_true, Int.natCast_nonneg, Bool.and_self, Int.toNat_natCast, List.drop_zero, hj1, hk, hk3, hc, hl4, hA, hC, Nat.zero_add, Nat.le_refl, true_and, wi]
  intro P0 P1 P2 P3 e hp
  have hok := pok4 hf 1 2 _ hv rfl
  unfold putR at hp
  rw [hok] at hp
  obtain ⟨rfl, rfl, rfl, rfl, rfl⟩ := hp
  have hq : (pe true != 0) = false := rfl
  rw [hq, cond_false]
  exact h _ hv
theorem e7r_7 (an : Int → Int → Int) (R sp : List (List D)) (i : Int) (n0 : Nat) (m0 : Nat) (n1 : Nat) (m1 : Nat) (n2 : Nat) (m2 : Nat) (n3 : Nat) (m3 : Nat) (P0 : List (List D)) (P1 : List (List D)) (P2 : List (List D)) (P3 : List (List D)) (w0 : Int) (w1 : Int) (w2 : Int) (w3 : Int) (w4 : Int) (w5 : Int) (w6 : Int) (w7 : Int) (w8 : Int) (w9 : Int) (w10 : Int) (w11 : Int) (w12 : Int) (w13 : Int) (w14 : Int) (w15 : Int) (N : X → Prop) (E : Exit → X → Prop) : (roundW Try.prog (gK an [(43, 7), (55, 3)] [(22, sGetC), (24, sPutC), (27, sI)]) Try.f7 0 [(23000, 58000), (23001, 58001), (23002, 58002), (23003, 58003)] [0, 3, 5, 6] [4, 23000, 23001, 23002, 23003, 6] (v_st7 R sp) (v_st7 R sp) N E (st7 R sp i n0 m0 n1 m1 n2 m2 n3 m3 P0 P1 P2 P3 w0 w1 w2 w3 w4 w5 w6 w7 w8 w9 w10 w11 w12 w13 w14 w15)) = (bif decide (i < @Nat.cast Int _ (List.length R)) then bif decide (i < 40) then bif decide (0 ≤ i) && decide (i < @Nat.cast Int _ (List.length R)) then bif isJ [IntKind.i64] (List.drop (0) (List.getD R (Int.toNat i) [])) then an (hdJ (List.drop (0) (List.getD R (Int.toNat i) []))) (15) = 7 ∧ bif decide (0 ≤ i) && decide (i < @Nat.cast Int _ (List.length R)) then bif isJ [IntKind.i64] (List.drop (0) (List.getD R (Int.toNat i) [])) then an (7) (3) = 3 ∧ bif decide (0 + n0 ≤ List.length P0) then bif decide (0 + n1 ≤ List.length P1) then bif decide (0 + n2 ≤ List.length P2) then bif decide (0 + n3 ≤ List.length P3) then bif okA (cut P0 (0) n0) (cut P1 (0) n1) (cut P2 (0) n2) (cut P3 (0) n3) && okC4 (cut P0 (0) n0) (cut P1 (0) n1) (cut P2 (0) n2) (cut P3 (0) n3) then ∀ (P0_1 P1_1 P2_1 P3_1 : List (List D)) (e : Int), putR (cut P0 (0) n0) (cut P1 (0) n1) (cut P2 (0) n2) (cut P3 (0) n3) (1) (3) (an (Int.fdiv (hdJ (List.drop (0) (List.getD R (Int.toNat i) []))) (16)) (255)) (0) (0) P0_1 P1_1 P2_1 P3_1 e → bif e != 0 then st7 R sp i n0 m0 n1 m1 n2 m2 n3 m3 P0 P1 P2 P3 w0 w1 w2 w3 w4 w5 w6 w7 w8 w9 w10 w11 w12 w13 w14 w15 = st7 R sp i n0 m0 n1 m1 n2 m2 n3 m3 P0 P1 P2 P3 w0 w1 w2 w3 w4 w5 w6 w7 w8 w9 w10 w11 w12 w13 w14 w15 ∧ E Exit.ret (st7 R sp i n0 m0 n1 m1 n2 m2 n3 m3 P0 P1 P2 P3 w0 w1 w2 w3 w4 w5 w6 w7 w8 w9 w10 w11 w12 w13 w14 w15) else st7 R sp (IntKind.wrap IntKind.i64 (i + 1)) (List.length P0_1) (List.length P0_1 + 0) (List.length P1_1) (List.length P1_1 + 0) (List.length P2_1) (List.length P2_1 + 0) (List.length P3_1) (List.length P3_1 + 0) (P0_1 ++ []) (P1_1 ++ []) (P2_1 ++ []) (P3_1 ++ []) w0 w1 w2 w3 w4 w5 w6 (an (Int.fdiv (hdJ (List.drop (0) (List.getD R (Int.toNat i) []))) (16)) (255)) w8 w9 w10 w11 w12 w13 w14 w15 = st7 R sp (IntKind.wrap IntKind.i64 (i + 1)) (List.length P0_1) (List.length P0_1 + 0) (List.length P1_1) (List.length P1_1 + 0) (List.length P2_1) (List.length P2_1 + 0) (List.length P3_1) (List.length P3_1 + 0) (P0_1 ++ []) (P1_1 ++ []) (P2_1 ++ []) (P3_1 ++ []) w0 w1 w2 w3 w4 w5 w6 (an (Int.fdiv (hdJ (List.drop (0) (List.getD R (Int.toNat i) []))) (16)) (255)) w8 w9 w10 w11 w12 w13 w14 w15 ∧ N (st7 R sp (IntKind.wrap IntKind.i64 (i + 1)) (List.length P0_1) (List.length P0_1 + 0) (List.length P1_1) (List.length P1_1 + 0) (List.length P2_1) (List.length P2_1 + 0) (List.length P3_1) (List.length P3_1 + 0) (P0_1 ++ []) (P1_1 ++ []) (P2_1 ++ []) (P3_1 ++ []) w0 w1 w2 w3 w4 w5 w6 (an (Int.fdiv (hdJ (List.drop (0) (List.getD R (Int.toNat i) []))) (16)) (255)) w8 w9 w10 w11 w12 w13 w14 w15) else False else False else False else False else False else False else False else False else False else st7 R sp i n0 m0 n1 m1 n2 m2 n3 m3 P0 P1 P2 P3 w0 w1 w2 w3 w4 w5 w6 w7 w8 w9 w10 w11 w12 w13 w14 w15 = st7 R sp i n0 m0 n1 m1 n2 m2 n3 m3 P0 P1 P2 P3 w0 w1 w2 w3 w4 w5 w6 w7 w8 w9 w10 w11 w12 w13 w14 w15 ∧ E (Exit.exit (0)) (st7 R sp i n0 m0 n1 m1 n2 m2 n3 m3 P0 P1 P2 P3 w0 w1 w2 w3 w4 w5 w6 w7 w8 w9 w10 w11 w12 w13 w14 w15) else st7 R sp i n0 m0 n1 m1 n2 m2 n3 m3 P0 P1 P2 P3 w0 w1 w2 w3 w4 w5 w6 w7 w8 w9 w10 w11 w12 w13 w14 w15 = st7 R sp i n0 m0 n1 m1 n2 m2 n3 m3 P0 P1 P2 P3 w0 w1 w2 w3 w4 w5 w6 w7 w8 w9 w10 w11 w12 w13 w14 w15 ∧ E (Exit.exit (0)) (st7 R sp i n0 m0 n1 m1 n2 m2 n3 m3 P0 P1 P2 P3 w0 w1 w2 w3 w4 w5 w6 w7 w8 w9 w10 w11 w12 w13 w14 w15)) := by kernel_rfl
theorem r7_7 {R sp : List (List D)} {f : Nat → Int} {i : Nat} (hR : okZ 1 R = true) (hf : ∀ n, val8 (f n) = true) (hi : i < R.length) (hi2 : i < 40) (hk : band (hdJ (R.getD i [])) 15 = 7) {N : X → Prop} {E : Exit → X → Prop}
    (h : ∀ v, val8 v = true → N (sf7 R sp (upd f 7 v) ((i + 1 : Nat) : Int))) : roundW Try.prog (gK band [(43, 7), (55, 3)] [(22, sGetC), (24, sPutC), (27, sI)]) Try.f7 0 [(23000, 58000), (23001, 58001), (23002, 58002), (23003, 58003)] [0, 3, 5, 6] [4, 23000, 23001, 23002, 23003, 6] (v_st7 R sp) (v_st7 R sp) N E (sf7 R sp f i) := by
  unfold sf7
  rw [e7r_7]
  obtain ⟨el, hw, hn⟩ := okZ_spec hR
  have hll : i < (toZ R).length := by rw [toZ_len]; exact hi
  have hj1 : isJ [IntKind.i64] (R.getD i []) = true := by
    rw [el]; exact isJ_mZ (j := 0) (n := 1) hw hll (by omega)
  have wi : IntKind.wrap .i64 ((i : Int) + 1) = ((i + 1 : Nat) : Int) := wrap_nat (n := 1) (by omega)
  have hi3 : (i : Int) < 40 := by omega
  have hk3 : band 7 3 = 3 := by rw [mask2]; rfl
  have hc : ∀ j, cut (rw4 f j) 0 4 = rw4 f j := fun j => rfl
  have hl4 : ∀ j, (rw4 f j).length = 4 := fun j => rfl
  have hA : okA (rw4 f 0) (rw4 f 4) (rw4 f 8) (rw4 f 12) = true := rfl
  have hC : okC4 (rw4 f 0) (rw4 f 4) (rw4 f 8) (rw4 f 12) = true := rfl
  have hv : val8 (band (Int.fdiv (hdJ (R.getD i [])) 16) 255) = true := by
    rw [mask8]; unfold val8 upto; simp; omega
  simp only [Int.ofNat_lt, hi, hi3, decide_true, cond_true, Int.natCast_nonneg, Bool.and_self, Int.toNat_natCast, List.drop_zero, hj1, hk, hk3, hc, hl4, hA, hC, Nat.zero_add, Nat.le_refl, true_and, wi]
  intro P0 P1 P2 P3 e hp
  have hok := pok4 hf 1 3 _ hv rfl
  unfold putR at hp
  rw [hok] at hp
  obtain ⟨rfl, rfl, rfl, rfl, rfl⟩ := hp
  have hq : (pe true != 0) = false := rfl
  rw [hq, cond_false]
  exact h _ hv
theorem e7r_8 (an : Int → Int → Int) (R sp : List (List D)) (i : Int) (n0 : Nat) (m0 : Nat) (n1 : Nat) (m1 : Nat) (n2 : Nat) (m2 : Nat) (n3 : Nat) (m3 : Nat) (P0 : List (List D)) (P1 : List (List D)) (P2 : List (List D)) (P3 : List (List D)) (w0 : Int) (w1 : Int) (w2 : Int) (w3 : Int) (w4 : Int) (w5 : Int) (w6 : Int) (w7 : Int) (w8 : Int) (w9 : Int) (w10 : Int) (w11 : Int) (w12 : Int) (w13 : Int) (w14 : Int) (w15 : Int) (N : X → Prop) (E : Exit → X → Prop) : (roundW Try.prog (gK an [(43, 8), (55, 0)] [(22, sGetC), (24, sPutC), (27, sI)]) Try.f7 0 [(23000, 58000), (23001, 58001), (23002, 58002), (23003, 58003)] [0, 3, 5, 6] [4, 23000, 23001, 23002, 23003, 6] (v_st7 R sp) (v_st7 R sp) N E (st7 R sp i n0 m0 n1 m1 n2 m2 n3 m3 P0 P1 P2 P3 w0 w1 w2 w3 w4 w5 w6 w7 w8 w9 w10 w11 w12 w13 w14 w15)) = (bif decide (i < @Nat.cast Int _ (List.length R)) then bif decide (i < 40) then bif decide (0 ≤ i) && decide (i < @Nat.cast Int _ (List.length R)) then bif isJ [IntKind.i64] (List.drop (0) (List.getD R (Int.toNat i) [])) then an (hdJ (List.drop (0) (List.getD R (Int.toNat i) []))) (15) = 8 ∧ bif decide (0 ≤ i) && decide (i < @Nat.cast Int _ (List.length R)) then bif isJ [IntKind.i64] (List.drop (0) (List.getD R (Int.toNat i) [])) then an (8) (3) = 0 ∧ bif decide (0 + n0 ≤ List.length P0) then bif decide (0 + n1 ≤ List.length P1) then bif decide (0 + n2 ≤ List.length P2) then bif decide (0 + n3 ≤ List.length P3) then bif okA (cut P0 (0) n0) (cut P1 (0) n1) (cut P2 (0) n2) (cut P3 (0) n3) && okC4 (cut P0 (0) n0) (cut P1 (0) n1) (cut P2 (0) n2) (cut P3 (0) n3) then ∀ (P0_1 P1_1 P2_1 P3_1 : List (List D)) (e : Int), putR (cut P0 (0) n0) (cut P1 (0) n1) (cut P2 (0) n2) (cut P3 (0) n3) (2) (0) (an (Int.fdiv (hdJ (List.drop (0) (List.getD R (Int.toNat i) []))) (16)) (255)) (0) (0) P0_1 P1_1 P2_1 P3_1 e → bif e != 0 then st7 R sp i n0 m0 n1 m1 n2 m2 n3 m3 P0 P1 P2 P3 w0 w1 w2 w3 w4 w5 w6 w7 w8 w9 w10 w11 w12 w13 w14 w15 = st7 R sp i n0 m0 n1 m1 n2 m2 n3 m3 P0 P1 P2 P3 w0 w1 w2 w3 w4 w5 w6 w7 w8 w9 w10 w11 w12 w13 w14 w15 ∧ E Exit.ret (st7 R sp i n0 m0 n1 m1 n2 m2 n3 m3 P0 P1 P2 P3 w0 w1 w2 w3 w4 w5 w6 w7 w8 w9 w10 w11 w12 w13 w14 w15) else st7 R sp (IntKind.wrap IntKind.i64 (i + 1)) (List.length P0_1) (List.length P0_1 + 0) (List.length P1_1) (List.length P1_1 + 0) (List.length P2_1) (List.length P2_1 + 0) (List.length P3_1) (List.length P3_1 + 0) (P0_1 ++ []) (P1_1 ++ []) (P2_1 ++ []) (P3_1 ++ []) w0 w1 w2 w3 w4 w5 w6 w7 (an (Int.fdiv (hdJ (List.drop (0) (List.getD R (Int.toNat i) []))) (16)) (255)) w9 w10 w11 w12 w13 w14 w15 = st7 R sp (IntKind.wrap IntKind.i64 (i + 1)) (List.length P0_1) (List.length P0_1 + 0) (List.length P1_1) (List.length P1_1 + 0) (List.length P2_1) (List.length P2_1 + 0) (List.length P3_1) (List.length P3_1 + 0) (P0_1 ++ []) (P1_1 ++ []) (P2_1 ++ []) (P3_1 ++ []) w0 w1 w2 w3 w4 w5 w6 w7 (an (Int.fdiv (hdJ (List.drop (0) (List.getD R (Int.toNat i) []))) (16)) (255)) w9 w10 w11 w12 w13 w14 w15 ∧ N (st7 R sp (IntKind.wrap IntKind.i64 (i + 1)) (List.length P0_1) (List.length P0_1 + 0) (List.length P1_1) (List.length P1_1 + 0) (List.length P2_1) (List.length P2_1 + 0) (List.length P3_1) (List.length P3_1 + 0) (P0_1 ++ []) (P1_1 ++ []) (P2_1 ++ []) (P3_1 ++ []) w0 w1 w2 w3 w4 w5 w6 w7 (an (Int.fdiv (hdJ (List.drop (0) (List.getD R (Int.toNat i) []))) (16)) (255)) w9 w10 w11 w12 w13 w14 w15) else False else False else False else False else False else False else False else False else False else st7 R sp i n0 m0 n1 m1 n2 m2 n3 m3 P0 P1 P2 P3 w0 w1 w2 w3 w4 w5 w6 w7 w8 w9 w10 w11 w12 w13 w14 w15 = st7 R sp i n0 m0 n1 m1 n2 m2 n3 m3 P0 P1 P2 P3 w0 w1 w2 w3 w4 w5 w6 w7 w8 w9 w10 w11 w12 w13 w14 w15 ∧ E (Exit.exit (0)) (st7 R sp i n0 m0 n1 m1 n2 m2 n3 m3 P0 P1 P2 P3 w0 w1 w2 w3 w4 w5 w6 w7 w8 w9 w10 w11 w12 w13 w14 w15) else st7 R sp i n0 m0 n1 m1 n2 m2 n3 m3 P0 P1 P2 P3 w0 w1 w2 w3 w4 w5 w6 w7 w8 w9 w10 w11 w12 w13 w14 w15 = st7 R sp i n0 m0 n1 m1 n2 m2 n3 m3 P0 P1 P2 P3 w0 w1 w2 w3 w4 w5 w6 w7 w8 w9 w10 w11 w12 w13 w14 w15 ∧ E (Exit.exit (0)) (st7 R sp i n0 m0 n1 m1 n2 m2 n3 m3 P0 P1 P2 P3 w0 w1 w2 w3 w4 w5 w6 w7 w8 w9 w10 w11 w12 w13 w14 w15)) := by kernel_rfl
theorem r7_8 {R sp : List (List D)} {f : Nat → Int} {i : Nat} (hR : okZ 1 R = true) (hf : ∀ n, val8 (f n) = true) (hi : i < R.length) (hi2 : i < 40) (hk : band (hdJ (R.getD i [])) 15 = 8) {N : X → Prop} {E : Exit → X → Prop}
    (h : ∀ v, val8 v = true → N (sf7 R sp (upd f 8 v) ((i + 1 : Nat) : Int))) : roundW Try.prog (gK band [(43, 8), (55, 0)] [(22, sGetC), (24, sPutC), (27, sI)]) Try.f7 0 [(23000, 58000), (23001, 58001), (23002, 58002), (23003, 58003)] [0, 3, 5, 6] [4, 23000, 23001, 23002, 23003, 6] (v_st7 R sp) (v_st7 R sp) N E (sf7 R sp f i) := by
  unfold sf7
  rw [e7r_8]
  obtain ⟨el, hw, hn⟩ := okZ_spec hR
  have hll : i < (toZ R).length := by rw [toZ_len]; exact hi
  have hj1 : isJ [IntKind.i64] (R.getD i []) = true := by
    rw [el]; exact isJ_mZ (j := 0) (n := 1) hw hll (by omega)
  have wi : IntKind.wrap .i64 ((i : Int) + 1) = ((i + 1 : Nat) : Int) := wrap_nat (n := 1) (by omega)
  have hi3 : (i : Int) < 40 := by omega
  have hk3 : band 8 3 = 0 := by rw [mask2]; rfl
  have hc : ∀ j, cut (rw4 f j) 0 4 = rw4 f j := fun j => rfl
  have hl4 : ∀ j, (rw4 f j).length = 4 := fun j => rfl
  have hA : okA (rw4 f 0) (rw4 f 4) (rw4 f 8) (rw4 f 12) = true := rfl
  have hC : okC4 (rw4 f 0) (rw4 f 4) (rw4 f 8) (rw4 f 12) = true := rfl
  have hv : val8 (band (Int.fdiv (hdJ (R.getD i [])) 16) 255) = true := by
    rw [mask8]; unfold val8 upto; simp; omega
  simp only [Int.ofNat_lt, hi, hi3, decide_true, cond_true, Int.natCast_nonneg, Bool.and_self, Int.toNat_natCast, List.drop_zero, hj1, hk, hk3, hc, hl4, hA, hC, Nat.zero_add, Nat.le_refl, true_and, wi]
  intro P0 P1 P2 P3 e hp
  have hok := pok4 hf 2 0 _ hv rfl
  unfold putR at hp
  rw [hok] at hp
  obtain ⟨rfl, rfl, rfl, rfl, rfl⟩ := hp
  have hq : (pe true != 0) = false := rfl
  rw [hq, cond_false]
  exact h _ hv
theorem e7r_9 (an : Int → Int → Int) (R sp : List (List D)) (i : Int) (n0 : Nat) (m0 : Nat) (n1 : Nat) (m1 : Nat) (n2 : Nat) (m2 : Nat) (n3 : Nat) (m3 : Nat) (P0 : List (List D)) (P1 : List (List D)) (P2 : List (List D)) (P3 : List (List D)) (w0 : Int) (w1 : Int) (w2 : Int) (w3 : Int) (w4 : Int) (w5 : Int) (w6 : Int) (w7 : Int) (w8 : Int) (w9 : Int) (w10 : Int) (w11 : Int) (w12 : Int) (w13 : Int) (w14 : Int) (w15 : Int) (N : X → Prop) (E : Exit → X → Prop) : (roundW Try.prog (gK an [(43, 9), (55, 1)] [(22, sGetC), (24, sPutC), (27, sI)]) Try.f7 0 [(23000, 58000), (23001, 58001), (23002, 58002), (23003, 58003)] [0, 3, 5, 6] [4, 23000, 23001, 23002, 23003, 6] (v_st7 R sp) (v_st7 R sp) N E (st7 R sp i n0 m0 n1 m1 n2 m2 n3 m3 P0 P1 P2 P3 w0 w1 w2 w3 w4 w5 w6 w7 w8 w9 w10 w11 w12 w13 w14 w15)) = (bif decide (i < @Nat.cast Int _ (List.length R)) then bif decide (i < 40) then bif decide (0 ≤ i) && decide (i < @Nat.cast Int _ (List.length R)) then bif isJ [IntKind.i64] (List.drop (0) (List.getD R (Int.toNat i) [])) then an (hdJ (List.drop (0) (List.getD R (Int.toNat i) []))) (15) = 9 ∧ bif decide (0 ≤ i) && decide (i < @Nat.cast Int _ (List.length R)) then bif isJ [IntKind.i64] (List.drop (0) (List.getD R (Int.toNat i) [])) then an (9) (3) = 1 ∧ bif decide (0 + n0 ≤ List.length P0) then bif decide (0 + n1 ≤ List.length P1) then bif decide (0 + n2 ≤ List.length P2) then bif decide (0 + n3 ≤ List.length P3) then bif okA (cut P0 (0) n0) (cut P1 (0) n1) (cut P2 (0) n2) (cut P3 (0) n3) && okC4 (cut P0 (0) n0) (cut P1 (0) n1) (cut P2 (0) n2) (cut P3 (0) n3) then ∀ (P0_1 P1_1 P2_1 P3_1 : List (List D)) (e : Int), putR (cut P0 (0) n0) (cut P1 (0) n1) (cut P2 (0) n2) (cut P3 (0) n3) (2) (1) (an (Int.fdiv (hdJ (List.drop (0) (List.getD R (Int.toNat i) []))) (16)) (255)) (0) (0) P0_1 P1_1 P2_1 P3_1 e → bif e != 0 then st7 R sp i n0 m0 n1 m1 n2 m2 n3 m3 P0 P1 P2 P3 w0 w1 w2 w3 w4 w5 w6 w7 w8 w9 w10 w11 w12 w13 w14 w15 = st7 R sp i n0 m0 n1 m1 n2 m2 n3 m3 P0 P1 P2 P3 w0 w1 w2 w3 w4 w5 w6 w7 w8 w9 w10 w11 w12 w13 w14 w15 ∧ E Exit.ret (st7 R sp i n0 m0 n1 m1 n2 m2 n3 m3 P0 P1 P2 P3 w0 w1 w2 w3 w4 w5 w6 w7 w8 w9 w10 w11 w12 w13 w14 w15) else st7 R sp (IntKind.wrap IntKind.i64 (i + 1)) (List.length P0_1) (List.length P0_1 + 0) (List.length P1_1) (List.length P1_1 + 0) (List.length P2_1) (List.length P2_1 + 0) (List.length P3_1) (List.length P3_1 + 0) (P0_1 ++ []) (P1_1 ++ []) (P2_1 ++ []) (P3_1 ++ []) w0 w1 w2 w3 w4 w5 w6 w7 w8 (an (Int.fdiv (hdJ (List.drop (0) (List.getD R (Int.toNat i) []))) (16)) (255)) w10 w11 w12 w13 w14 w15 = st7 R sp (IntKind.wrap IntKind.i64 (i + 1)) (List.length P0_1) (List.length P0_1 + 0) (List.length P1_1) (List.length P1_1 + 0) (List.length P2_1) (List.length P2_1 + 0) (List.length P3_1) (List.length P3_1 + 0) (P0_1 ++ []) (P1_1 ++ []) (P2_1 ++ []) (P3_1 ++ []) w0 w1 w2 w3 w4 w5 w6 w7 w8 (an (Int.fdiv (hdJ (List.drop (0) (List.getD R (Int.toNat i) []))) (16)) (255)) w10 w11 w12 w13 w14 w15 ∧ N (st7 R sp (IntKind.wrap IntKind.i64 (i + 1)) (List.length P0_1) (List.length P0_1 + 0) (List.length P1_1) (List.length P1_1 + 0) (List.length P2_1) (List.length P2_1 + 0) (List.length P3_1) (List.length P3_1 + 0) (P0_1 ++ []) (P1_1 ++ []) (P2_1 ++ []) (P3_1 ++ []) w0 w1 w2 w3 w4 w5 w6 w7 w8 (an (Int.fdiv (hdJ (List.drop (0) (List.getD R (Int.toNat i) []))) (16)) (255)) w10 w11 w12 w13 w14 w15) else False else False else False else False else False else False else False else False else False else st7 R sp i n0 m0 n1 m1 n2 m2 n3 m3 P0 P1 P2 P3 w0 w1 w2 w3 w4 w5 w6 w7 w8 w9 w10 w11 w12 w13 w14 w15 = st7 R sp i n0 m0 n1 m1 n2 m2 n3 m3 P0 P1 P2 P3 w0 w1 w2 w3 w4 w5 w6 w7 w8 w9 w10 w11 w12 w13 w14 w15 ∧ E (Exit.exit (0)) (st7 R sp i n0 m0 n1 m1 n2 m2 n3 m3 P0 P1 P2 P3 w0 w1 w2 w3 w4 w5 w6 w7 w8 w9 w10 w11 w12 w13 w14 w15) else st7 R sp i n0 m0 n1 m1 n2 m2 n3 m3 P0 P1 P2 P3 w0 w1 w2 w3 w4 w5 w6 w7 w8 w9 w10 w11 w12 w13 w14 w15 = st7 R sp i n0 m0 n1 m1 n2 m2 n3 m3 P0 P1 P2 P3 w0 w1 w2 w3 w4 w5 w6 w7 w8 w9 w10 w11 w12 w13 w14 w15 ∧ E (Exit.exit (0)) (st7 R sp i n0 m0 n1 m1 n2 m2 n3 m3 P0 P1 P2 P3 w0 w1 w2 w3 w4 w5 w6 w7 w8 w9 w10 w11 w12 w13 w14 w15)) := by kernel_rfl
theorem r7_9 {R sp : List (List D)} {f : Nat → Int} {i : Nat} (hR : okZ 1 R = true) (hf : ∀ n, val8 (f n) = true) (hi : i < R.length) (hi2 : i < 40) (hk : band (hdJ (R.getD i [])) 15 = 9) {N : X → Prop} {E : Exit → X → Prop}
    (h : ∀ v, val8 v = true → N (sf7 R sp (upd f 9 v) ((i + 1 : Nat) : Int))) : roundW Try.prog (gK band [(43, 9), (55, 1)] [(22, sGetC), (24, sPutC), (27, sI)]) Try.f7 0 [(23000, 58000), (23001, 58001), (23002, 58002), (23003, 58003)] [0, 3, 5, 6] [4, 23000, 23001, 23002, 23003, 6] (v_st7 R sp) (v_st7 R sp) N E (sf7 R sp f i) := by
  unfold sf7
  rw [e7r_9]
  obtain ⟨el, hw, hn⟩ := okZ_spec hR
  have hll : i < (toZ R).length := by rw [toZ_len]; exact hi
  have hj1 : isJ [IntKind.i64] (R.getD i []) = true := by
    rw [el]; exact isJ_mZ (j := 0) (n := 1) hw hll (by omega)
  have wi : IntKind.wrap .i64 ((i : Int) + 1) = ((i + 1 : Nat) : Int) := wrap_nat (n := 1) (by omega)
  have hi3 : (i : Int) < 40 := by omega
  have hk3 : band 9 3 = 1 := by rw [mask2]; rfl
  have hc : ∀ j, cut (rw4 f j) 0 4 = rw4 f j := fun j => rfl
  have hl4 : ∀ j, (rw4 f j).length = 4 := fun j => rfl
  have hA : okA (rw4 f 0) (rw4 f 4) (rw4 f 8) (rw4 f 12) = true := rfl
  have hC : okC4 (rw4 f 0) (rw4 f 4) (rw4 f 8) (rw4 f 12) = true := rfl
  have hv : val8 (band (Int.fdiv (hdJ (R.getD i [])) 16) 255) = true := by
    rw [mask8]; unfold val8 upto; simp; omega
  simp only [Int.ofNat_lt, hi, hi3, decide_true, cond_true, Int.natCast_nonneg, Bool.and_self, Int.toNat_natCast, List.drop_zero, hj1, hk, hk3, hc, hl4, hA, hC, Nat.zero_add, Nat.le_refl, true_and, wi]
  intro P0 P1 P2 P3 e hp
  have hok := pok4 hf 2 1 _ hv rfl
  unfold putR at hp
  rw [hok] at hp
  obtain ⟨rfl, rfl, rfl, rfl, rfl⟩ := hp
  have hq : (pe true != 0) = false := rfl
  rw [hq, cond_false]
  exact h _ hv
theorem e7r_10 (an : Int → Int → Int) (R sp : List (List D)) (i : Int) (n0 : Nat) (m0 : Nat) (n1 : Nat) (m1 : Nat) (n2 : Nat) (m2 : Nat) (n3 : Nat) (m3 : Nat) (P0 : List (List D)) (P1 : List (List D)) (P2 : List (List D)) (P3 : List (List D)) (w0 : Int) (w1 : Int) (w2 : Int) (w3 : Int) (w4 : Int) (w5 : Int) (w6 : Int) (w7 : Int) (w8 : Int) (w9 : Int) (w10 : Int) (w11 : Int) (w12 : Int) (w13 : Int) (w14 : Int) (w15 : Int) (N : X → Prop) (E : Exit → X → Prop) : (roundW Try.prog (gK an [(43, 10), (55, 2)] [(22, sGetC), (24, sPutC), (27, sI)]) Try.f7 0 [(23000, 58000), (23001, 58001), (23002, 58002), (23003, 58003)] [0, 3, 5, 6] [4, 23000, 23001, 23002, 23003, 6] (v_st7 R sp) (v_st7 R sp) N E (st7 R sp i n0 m0 n1 m1 n2 m2 n3 m3 P0 P1 P2 P3 w0 w1 w2 w3 w4 w5 w6 w7 w8 w9 w10 w11 w12 w13 w14 w15)) = (bif decide (i < @Nat.cast Int _ (List.length R)) then bif decide (i < 40) then bif decide (0 ≤ i) && decide (i < @Nat.cast Int _ (List.length R)) then bif isJ [IntKind.i64] (List.drop (0) (List.getD R (Int.toNat i) [])) then an (hdJ (List.drop (0) (List.getD R (Int.toNat i) []))) (15) = 10 ∧ bif decide (0 ≤ i) && decide (i < @Nat.cast Int _ (List.length R)) then bif isJ [IntKind.i64] (List.drop (0) (List.getD R (Int.toNat i) [])) then an (10) (3) = 2 ∧ bif decide (0 + n0 ≤ List.length P0) then bif decide (0 + n1 ≤ List.length P1) then bif decide (0 + n2 ≤ List.length P2) then bif decide (0 + n3 ≤ List.length P3) then bif okA (cut P0 (0) n0) (cut P1 (0) n1) (cut P2 (0) n2) (cut P3 (0) n3) && okC4 (cut P0 (0) n0) (cut P1 (0) n1) (cut P2 (0) n2) (cut P3 (0) n3) then ∀ (P0_1 P1_1 P2_1 P3_1 : List (List D)) (e : Int), putR (cut P0 (0) n0) (cut P1 (0) n1) (cut P2 (0) n2) (cut P3 (0) n3) (2) (2) (an (Int.fdiv (hdJ (List.drop (0) (List.getD R (Int.toNat i) []))) (16)) (255)) (0) (0) P0_1 P1_1 P2_1 P3_1 e → bif e != 0 then st7 R sp i n0 m0 n1 m1 n2 m2 n3 m3 P0 P1 P2 P3 w0 w1 w2 w3 w4 w5 w6 w7 w8 w9 w10 w11 w12 w13 w14 w15 = st7 R sp i n0 m0 n1 m1 n2 m2 n3 m3 P0 P1 P2 P3 w0 w1 w2 w3 w4 w5 w6 w7 w8 w9 w10 w11 w12 w13 w14 w15 ∧ E Exit.ret (st7 R sp i n0 m0 n1 m1 n2 m2 n3 m3 P0 P1 P2 P3 w0 w1 w2 w3 w4 w5 w6 w7 w8 w9 w10 w11 w12 w13 w14 w15) else st7 R sp (IntKind.wrap IntKind.i64 (i + 1)) (List.length P0_1) (List.length P0_1 + 0) (List.length P1_1) (List.length P1_1 + 0) (List.length P2_1) (List.length P2_1 + 0) (List.length P3_1) (List.length P3_1 + 0) (P0_1 ++ []) (P1_1 ++ []) (P2_1 ++ []) (P3_1 ++ []) w0 w1 w2 w3 w4 w5 w6 w7 w8 w9 (an (Int.fdiv (hdJ (List.drop (0) (List.getD R (Int.toNat i) []))) (16)) (255)) w11 w12 w13 w14 w15 = st7 R sp (IntKind.wrap IntKind.i64 (i + 1)) (List.length P0_1) (List.length P0_1 + 0) (List.length P1_1) (List.length P1_1 + 0) (List.length P2_1) (List.length P2_1 + 0) (List.length P3_1) (List.length P3_1 + 0) (P0_1 ++ []) (P1_1 ++ []) (P2_1 ++ []) (P3_1 ++ []) w0 w1 w2 w3 w4 w5 w6 w7 w8 w9 (an (Int.fdiv (hdJ (List.drop (0) (List.getD R (Int.toNat i) []))) (16)) (255)) w11 w12 w13 w14 w15 ∧ N (st7 R sp (IntKind.wrap IntKind.i64 (i + 1)) (List.length P0_1) (List.length P0_1 + 0) (List.length P1_1) (List.length P1_1 + 0) (List.length P2_1) (List.length P2_1 + 0) (List.length P3_1) (List.length P3_1 + 0) (P0_1 ++ []) (P1_1 ++ []) (P2_1 ++ []) (P3_1 ++ []) w0 w1 w2 w3 w4 w5 w6 w7 w8 w9 (an (Int.fdiv (hdJ (List.drop (0) (List.getD R (Int.toNat i) []))) (16)) (255)) w11 w12 w13 w14 w15) else False else False else False else False else False else False else False else False else False else st7 R sp i n0 m0 n1 m1 n2 m2 n3 m3 P0 P1 P2 P3 w0 w1 w2 w3 w4 w5 w6 w7 w8 w9 w10 w11 w12 w13 w14 w15 = st7 R sp i n0 m0 n1 m1 n2 m2 n3 m3 P0 P1 P2 P3 w0 w1 w2 w3 w4 w5 w6 w7 w8 w9 w10 w11 w12 w13 w14 w15 ∧ E (Exit.exit (0)) (st7 R sp i n0 m0 n1 m1 n2 m2 n3 m3 P0 P1 P2 P3 w0 w1 w2 w3 w4 w5 w6 w7 w8 w9 w10 w11 w12 w13 w14 w15) else st7 R sp i n0 m0 n1 m1 n2 m2 n3 m3 P0 P1 P2 P3 w0 w1 w2 w3 w4 w5 w6 w7 w8 w9 w10 w11 w12 w13 w14 w15 = st7 R sp i n0 m0 n1 m1 n2 m2 n3 m3 P0 P1 P2 P3 w0 w1 w2 w3 w4 w5 w6 w7 w8 w9 w10 w11 w12 w13 w14 w15 ∧ E (Exit.exit (0)) (st7 R sp i n0 m0 n1 m1 n2 m2 n3 m3 P0 P1 P2 P3 w0 w1 w2 w3 w4 w5 w6 w7 w8 w9 w10 w11 w12 w13 w14 w15)) := by kernel_rfl
theorem r7_10 {R sp : List (List D)} {f : Nat → Int} {i : Nat} (hR : okZ 1 R = true) (hf : ∀ n, val8 (f n) = true) (hi : i < R.length) (hi2 : i < 40) (hk : band (hdJ (R.getD i [])) 15 = 10) {N : X → Prop} {E : Exit → X → Prop}
    (h : ∀ v, val8 v = true → N (sf7 R sp (upd f 10 v) ((i + 1 : Nat) : Int))) : roundW Try.prog (gK band [(43, 10), (55, 2)] [(22, sGetC), (24, sPutC), (27, sI)]) Try.f7 0 [(23000, 58000), (23001, 58001), (23002, 58002), (23003, 58003)] [0, 3, 5, 6] [4, 23000, 23001, 23002, 23003, 6] (v_st7 R sp) (v_st7 R sp) N E (sf7 R sp f i) := by
  unfold sf7
  rw [e7r_10]
  obtain ⟨el, hw, hn⟩ := okZ_spec hR
  have hll : i < (toZ R).length := by rw [toZ_len]; exact hi
  have hj1 : isJ [IntKind.i64] (R.getD i []) = true := by
    rw [el]; exact isJ_mZ (j := 0) (n := 1) hw hll (by omega)
  have wi : IntKind.wrap .i64 ((i : Int) + 1) = ((i + 1 : Nat) : Int) := wrap_nat (n := 1) (by omega)
  have hi3 : (i : Int) < 40 := by omega
  have hk3 : band 10 3 = 2 := by rw [mask2]; rfl
  have hc : ∀ j, cut (rw4 f j) 0 4 = rw4 f j := fun j => rfl
  have hl4 : ∀ j, (rw4 f j).length = 4 := fun j => rfl
  have hA : okA (rw4 f 0) (rw4 f 4) (rw4 f 8) (rw4 f 12) = true := rfl
  have hC : okC4 (rw4 f 0) (rw4 f 4) (rw4 f 8) (rw4 f 12) = true := rfl
  have hv : val8 (band (Int.fdiv (hdJ (R.getD i [])) 16) 255) = true := by
    rw [mask8]; unfold val8 upto; simp; omega
  simp only [Int.ofNat_lt, hi, hi3, decide_true, cond_true, Int.natCast_nonneg, Bool.and_self, Int.toNat_natCast, List.drop_zero, hj1, hk, hk3, hc, hl4, hA, hC, Nat.zero_add, Nat.le_refl, true_and, wi]
  intro P0 P1 P2 P3 e hp
  have hok := pok4 hf 2 2 _ hv rfl
  unfold putR at hp
  rw [hok] at hp
  obtain ⟨rfl, rfl, rfl, rfl, rfl⟩ := hp
  have hq : (pe true != 0) = false := rfl
  rw [hq, cond_false]
  exact h _ hv
theorem e7r_11 (an : Int → Int → Int) (R sp : List (List D)) (i : Int) (n0 : Nat) (m0 : Nat) (n1 : Nat) (m1 : Nat) (n2 : Nat) (m2 : Nat) (n3 : Nat) (m3 : Nat) (P0 : List (List D)) (P1 : List (List D)) (P2 : List (List D)) (P3 : List (List D)) (w0 : Int) (w1 : Int) (w2 : Int) (w3 : Int) (w4 : Int) (w5 : Int) (w6 : Int) (w7 : Int) (w8 : Int) (w9 : Int) (w10 : Int) (w11 : Int) (w12 : Int) (w13 : Int) (w14 : Int) (w15 : Int) (N : X → Prop) (E : Exit → X → Prop) : (roundW Try.prog (gK an [(43, 11), (55, 3)] [(22, sGetC), (24, sPutC), (27, sI)]) Try.f7 0 [(23000, 58000), (23001, 58001), (23002, 58002), (23003, 58003)] [0, 3, 5, 6] [4, 23000, 23001, 23002, 23003, 6] (v_st7 R sp) (v_st7 R sp) N E (st7 R sp i n0 m0 n1 m1 n2 m2 n3 m3 P0 P1 P2 P3 w0 w1 w2 w3 w4 w5 w6 w7 w8 w9 w10 w11 w12 w13 w14 w15)) = (bif decide (i < @Nat.cast Int _ (List.length R)) then bif decide (i < 40) then bif decide (0 ≤ i) && decide (i < @Nat.cast Int _ (List.length R)) then bif isJ [IntKind.i64] (List.drop (0) (List.getD R (Int.toNat i) [])) then an (hdJ (List.drop (0) (List.getD R (Int.toNat i) []))) (15) = 11 ∧ bif decide (0 ≤ i) && decide (i < @Nat.cast Int _ (List.length R)) then bif isJ [IntKind.i64] (List.drop (0) (List.getD R (Int.toNat i) [])) then an (11) (3) = 3 ∧ bif decide (0 + n0 ≤ List.length P0) then bif decide (0 + n1 ≤ List.length P1) then bif decide (0 + n2 ≤ List.length P2) then bif decide (0 + n3 ≤ List.length P3) then bif okA (cut P0 (0) n0) (cut P1 (0) n1) (cut P2 (0) n2) (cut P3 (0) n3) && okC4 (cut P0 (0) n0) (cut P1 (0) n1) (cut P2 (0) n2) (cut P3 (0) n3) then ∀ (P0_1 P1_1 P2_1 P3_1 : List (List D)) (e : Int), putR (cut P0 (0) n0) (cut P1 (0) n1) (cut P2 (0) n2) (cut P3 (0) n3) (2) (3) (an (Int.fdiv (hdJ (List.drop (0) (List.getD R (Int.toNat i) []))) (16)) (255)) (0) (0) P0_1 P1_1 P2_1 P3_1 e → bif e != 0 then st7 R sp i n0 m0 n1 m1 n2 m2 n3 m3 P0 P1 P2 P3 w0 w1 w2 w3 w4 w5 w6 w7 w8 w9 w10 w11 w12 w13 w14 w15 = st7 R sp i n0 m0 n1 m1 n2 m2 n3 m3 P0 P1 P2 P3 w0 w1 w2 w3 w4 w5 w6 w7 w8 w9 w10 w11 w12 w13 w14 w15 ∧ E Exit.ret (st7 R sp i n0 m0 n1 m1 n2 m2 n3 m3 P0 P1 P2 P3 w0 w1 w2 w3 w4 w5 w6 w7 w8 w9 w10 w11 w12 w13 w14 w15) else st7 R sp (IntKind.wrap IntKind.i64 (i + 1)) (List.length P0_1) (List.length P0_1 + 0) (List.length P1_1) (List.length P1_1 + 0) (List.length P2_1) (List.length P2_1 + 0) (List.length P3_1) (List.length P3_1 + 0) (P0_1 ++ []) (P1_1 ++ []) (P2_1 ++ []) (P3_1 ++ []) w0 w1 w2 w3 w4 w5 w6 w7 w8 w9 w10 (an (Int.fdiv (hdJ (List.drop (0) (List.getD R (Int.toNat i) []))) (16)) (255)) w12 w13 w14 w15 = st7 R sp (IntKind.wrap IntKind.i64 (i + 1)) (List.length P0_1) (List.length P0_1 + 0) (List.length P1_1) (List.length P1_1 + 0) (List.length P2_1) (List.length P2_1 + 0) (List.length P3_1) (List.length P3_1 + 0) (P0_1 ++ []) (P1_1 ++ []) (P2_1 ++ []) (P3_1 ++ []) w0 w1 w2 w3 w4 w5 w6 w7 w8 w9 w10 (an (Int.fdiv (hdJ (List.drop (0) (List.getD R (Int.toNat i) []))) (16)) (255)) w12 w13 w14 w15 ∧ N (st7 R sp (IntKind.wrap IntKind.i64 (i + 1)) (List.length P0_1) (List.length P0_1 + 0) (List.length P1_1) (List.length P1_1 + 0) (List.length P2_1) (List.length P2_1 + 0) (List.length P3_1) (List.length P3_1 + 0) (P0_1 ++ []) (P1_1 ++ []) (P2_1 ++ []) (P3_1 ++ []) w0 w1 w2 w3 w4 w5 w6 w7 w8 w9 w10 (an (Int.fdiv (hdJ (List.drop (0) (List.getD R (Int.toNat i) []))) (16)) (255)) w12 w13 w14 w15) else False else False else False else False else False else False else False else False else False else st7 R sp i n0 m0 n1 m1 n2 m2 n3 m3 P0 P1 P2 P3 w0 w1 w2 w3 w4 w5 w6 w7 w8 w9 w10 w11 w12 w13 w14 w15 = st7 R sp i n0 m0 n1 m1 n2 m2 n3 m3 P0 P1 P2 P3 w0 w1 w2 w3 w4 w5 w6 w7 w8 w9 w10 w11 w12 w13 w14 w15 ∧ E (Exit.exit (0)) (st7 R sp i n0 m0 n1 m1 n2 m2 n3 m3 P0 P1 P2 P3 w0 w1 w2 w3 w4 w5 w6 w7 w8 w9 w10 w11 w12 w13 w14 w15) else st7 R sp i n0 m0 n1 m1 n2 m2 n3 m3 P0 P1 P2 P3 w0 w1 w2 w3 w4 w5 w6 w7 w8 w9 w10 w11 w12 w13 w14 w15 = st7 R sp i n0 m0 n1 m1 n2 m2 n3 m3 P0 P1 P2 P3 w0 w1 w2 w3 w4 w5 w6 w7 w8 w9 w10 w11 w12 w13 w14 w15 ∧ E (Exit.exit (0)) (st7 R sp i n0 m0 n1 m1 n2 m2 n3 m3 P0 P1 P2 P3 w0 w1 w2 w3 w4 w5 w6 w7 w8 w9 w10 w11 w12 w13 w14 w15)) := by kernel_rfl
theorem r7_11 {R sp : List (List D)} {f : Nat → Int} {i : Nat} (hR : okZ 1 R = true) (hf : ∀ n, val8 (f n) = true) (hi : i < R.length) (hi2 : i < 40) (hk : band (hdJ (R.getD i [])) 15 = 11) {N : X → Prop} {E : Exit → X → Prop}
    (h : ∀ v, val8 v = true → N (sf7 R sp (upd f 11 v) ((i + 1 : Nat) : Int))) : roundW Try.prog (gK band [(43, 11), (55, 3)] [(22, sGetC), (24, sPutC), (27, sI)]) Try.f7 0 [(23000, 58000), (23001, 58001), (23002, 58002), (23003, 58003)] [0, 3, 5, 6] [4, 23000, 23001, 23002, 23003, 6] (v_st7 R sp) (v_st7 R sp) N E (sf7 R sp f i) := by
  unfold sf7
  rw [e7r_11]
  obtain ⟨el, hw, hn⟩ := okZ_spec hR
  have hll : i < (toZ R).length := by rw [toZ_len]; exact hi
  have hj1 : isJ [IntKind.i64] (R.getD i []) = true := by
    rw [el]; exact isJ_mZ (j := 0) (n := 1) hw hll (by omega)
  have wi : IntKind.wrap .i64 ((i : Int) + 1) = ((i + 1 : Nat) : Int) := wrap_nat (n := 1) (by omega)
  have hi3 : (i : Int) < 40 := by omega
  have hk3 : band 11 3 = 3 := by rw [mask2]; rfl
  have hc : ∀ j, cut (rw4 f j) 0 4 = rw4 f j := fun j => rfl
  have hl4 : ∀ j, (rw4 f j).length = 4 := fun j => rfl
  have hA : okA (rw4 f 0) (rw4 f 4) (rw4 f 8) (rw4 f 12) = true := rfl
  have hC : okC4 (rw4 f 0) (rw4 f 4) (rw4 f 8) (rw4 f 12) = true := rfl
  have hv : val8 (band (Int.fdiv (hdJ (R.getD i [])) 16) 255) = true := by
    rw [mask8]; unfold val8 upto; simp; omega
  simp only [Int.ofNat_lt, hi, hi3, decide_true, cond_true, Int.natCast_nonneg, Bool.and_self, Int.toNat_natCast, List.drop_zero, hj1, hk, hk3, hc, hl4, hA, hC, Nat.zero_add, Nat.le_refl, true_and, wi]
  intro P0 P1 P2 P3 e hp
  have hok := pok4 hf 2 3 _ hv rfl
  unfold putR at hp
  rw [hok] at hp
  obtain ⟨rfl, rfl, rfl, rfl, rfl⟩ := hp
  have hq : (pe true != 0) = false := rfl
  rw [hq, cond_false]
  exact h _ hv
theorem e7r_12 (an : Int → Int → Int) (R sp : List (List D)) (i : Int) (n0 : Nat) (m0 : Nat) (n1 : Nat) (m1 : Nat) (n2 : Nat) (m2 : Nat) (n3 : Nat) (m3 : Nat) (P0 : List (List D)) (P1 : List (List D)) (P2 : List (List D)) (P3 : List (List D)) (w0 : Int) (w1 : Int) (w2 : Int) (w3 : Int) (w4 : Int) (w5 : Int) (w6 : Int) (w7 : Int) (w8 : Int) (w9 : Int) (w10 : Int) (w11 : Int) (w12 : Int) (w13 : Int) (w14 : Int) (w15 : Int) (N : X → Prop) (E : Exit → X → Prop) : (roundW Try.prog (gK an [(43, 12), (55, 0)] [(22, sGetC), (24, sPutC), (27, sI)]) Try.f7 0 [(23000, 58000), (23001, 58001), (23002, 58002), (23003, 58003)] [0, 3, 5, 6] [4, 23000, 23001, 23002, 23003, 6] (v_st7 R sp) (v_st7 R sp) N E (st7 R sp i n0 m0 n1 m1 n2 m2 n3 m3 P0 P1 P2 P3 w0 w1 w2 w3 w4 w5 w6 w7 w8 w9 w10 w11 w12 w13 w14 w15)) = (bif decide (i < @Nat.cast Int _ (List.length R)) then bif decide (i < 40) then bif decide (0 ≤ i) && decide (i < @Nat.cast Int _ (List.length R)) then bif isJ [IntKind.i64] (List.drop (0) (List.getD R (Int.toNat i) [])) then an (hdJ (List.drop (0) (List.getD R (Int.toNat i) []))) (15) = 12 ∧ bif decide (0 ≤ i) && decide (i < @Nat.cast Int _ (List.length R)) then bif isJ [IntKind.i64] (List.drop (0) (List.getD R (Int.toNat i) [])) then an (12) (3) = 0 ∧ bif decide (0 + n0 ≤ List.length P0) then bif decide (0 + n1 ≤ List.length P1) then bif decide (0 + n2 ≤ List.length P2) then bif decide (0 + n3 ≤ List.length P3) then bif okA (cut P0 (0) n0) (cut P1 (0) n1) (cut P2 (0) n2) (cut P3 (0) n3) && okC4 (cut P0 (0) n0) (cut P1 (0) n1) (cut P2 (0) n2) (cut P3 (0) n3) then ∀ (P0_1 P1_1 P2_1 P3_1 : List (List D)) (e : Int), putR (cut P0 (0) n0) (cut P1 (0) n1) (cut P2 (0) n2) (cut P3 (0) n3) (3) (0) (an (Int.fdiv (hdJ (List.drop (0) (List.getD R (Int.toNat i) []))) (16)) (255)) (0) (0) P0_1 P1_1 P2_1 P3_1 e → bif e != 0 then st7 R sp i n0 m0 n1 m1 n2 m2 n3 m3 P0 P1 P2 P3 w0 w1 w2 w3 w4 w5 w6 w7 w8 w9 w10 w11 w12 w13 w14 w15 = st7 R sp i n0 m0 n1 m1 n2 m2 n3 m3 P0 P1 P2 P3 w0 w1 w2 w3 w4 w5 w6 w7 w8 w9 w10 w11 w12 w13 w14 w15 ∧ E Exit.ret (st7 R sp i n0 m0 n1 m1 n2 m2 n3 m3 P0 P1 P2 P3 w0 w1 w2 w3 w4 w5 w6 w7 w8 w9 w10 w11 w12 w13 w14 w15) else st7 R sp (IntKind.wrap IntKind.i64 (i + 1)) (List.length P0_1) (List.length P0_1 + 0) (List.length P1_1) (List.length P1_1 + 0) (List.length P2_1) (List.length P2_1 + 0) (List.length P3_1) (List.length P3_1 + 0) (P0_1 ++ []) (P1_1 ++ []) (P2_1 ++ []) (P3_1 ++ []) w0 w1 w2 w3 w4 w5 w6 w7 w8 w9 w10 w11 (an (Int.fdiv (hdJ (List.drop (0) (List.getD R (Int.toNat i) []))) (16)) (255)) w13 w14 w15 = st7 R sp (IntKind.wrap IntKind.i64 (i + 1)) (List.length P0_1) (List.length P0_1 + 0) (List.length P1_1) (List.length P1_1 + 0) (List.length P2_1) (List.length P2_1 + 0) (List.length P3_1) (List.length P3_1 + 0) (P0_1 ++ []) (P1_1 ++ []) (P2_1 ++ []) (P3_1 ++ []) w0 w1 w2 w3 w4 w5 w6 w7 w8 w9 w10 w11 (an (Int.fdiv (hdJ (List.drop (0) (List.getD R (Int.toNat i) []))) (16)) (255)) w13 w14 w15 ∧ N (st7 R sp (IntKind.wrap IntKind.i64 (i + 1)) (List.length P0_1) (List.length P0_1 + 0) (List.length P1_1) (List.length P1_1 + 0) (List.length P2_1) (List.length P2_1 + 0) (List.length P3_1) (List.length P3_1 + 0) (P0_1 ++ []) (P1_1 ++ []) (P2_1 ++ []) (P3_1 ++ []) w0 w1 w2 w3 w4 w5 w6 w7 w8 w9 w10 w11 (an (Int.fdiv (hdJ (List.drop (0) (List.getD R (Int.toNat i) []))) (16)) (255)) w13 w14 w15) else False else False else False else False else False else False else False else False else False else st7 R sp i n0 m0 n1 m1 n2 m2 n3 m3 P0 P1 P2 P3 w0 w1 w2 w3 w4 w5 w6 w7 w8 w9 w10 w11 w12 w13 w14 w15 = st7 R sp i n0 m0 n1 m1 n2 m2 n3 m3 P0 P1 P2 P3 w0 w1 w2 w3 w4 w5 w6 w7 w8 w9 w10 w11 w12 w13 w14 w15 ∧ E (Exit.exit (0)) (st7 R sp i n0 m0 n1 m1 n2 m2 n3 m3 P0 P1 P2 P3 w0 w1 w2 w3 w4 w5 w6 w7 w8 w9 w10 w11 w12 w13 w14 w15) else st7 R sp i n0 m0 n1 m1 n2 m2 n3 m3 P0 P1 P2 P3 w0 w1 w2 w3 w4 w5 w6 w7 w8 w9 w10 w11 w12 w13 w14 w15 = st7 R sp i n0 m0 n1 m1 n2 m2 n3 m3 P0 P1 P2 P3 w0 w1 w2 w3 w4 w5 w6 w7 w8 w9 w10 w11 w12 w13 w14 w15 ∧ E (Exit.exit (0)) (st7 R sp i n0 m0 n1 m1 n2 m2 n3 m3 P0 P1 P2 P3 w0 w1 w2 w3 w4 w5 w6 w7 w8 w9 w10 w11 w12 w13 w14 w15)) := by kernel_rfl
theorem r7_12 {R sp : List (List D)} {f : Nat → Int} {i : Nat} (hR : okZ 1 R = true) (hf : ∀ n, val8 (f n) = true) (hi : i < R.length) (hi2 : i < 40) (hk : band (hdJ (R.getD i [])) 15 = 12) {N : X → Prop} {E : Exit → X → Prop}
    (h : ∀ v, val8 v = true → N (sf7 R sp (upd f 12 v) ((i + 1 : Nat) : Int))) : roundW Try.prog (gK band [(43, 12), (55, 0)] [(22, sGetC), (24, sPutC), (27, sI)]) Try.f7 0 [(23000, 58000), (23001, 58001), (23002, 58002), (23003, 58003)] [0, 3, 5, 6] [4, 23000, 23001, 23002, 23003, 6] (v_st7 R sp) (v_st7 R sp) N E (sf7 R sp f i) := by
  unfold sf7
  rw [e7r_12]
  obtain ⟨el, hw, hn⟩ := okZ_spec hR
  have hll : i < (toZ R).length := by rw [toZ_len]; exact hi
  have hj1 : isJ [IntKind.i64] (R.getD i []) = true := by
    rw [el]; exact isJ_mZ (j := 0) (n := 1) hw hll (by omega)
  have wi : IntKind.wrap .i64 ((i : Int) + 1) = ((i + 1 : Nat) : Int) := wrap_nat (n := 1) (by omega)
  have hi3 : (i : Int) < 40 := by omega
  have hk3 : band 12 3 = 0 := by rw [mask2]; rfl
  have hc : ∀ j, cut (rw4 f j) 0 4 = rw4 f j := fun j => rfl
  have hl4 : ∀ j, (rw4 f j).length = 4 := fun j => rfl
  have hA : okA (rw4 f 0) (rw4 f 4) (rw4 f 8) (rw4 f 12) = true := rfl
  have hC : okC4 (rw4 f 0) (rw4 f 4) (rw4 f 8) (rw4 f 12) = true := rfl
  have hv : val8 (band (Int.fdiv (hdJ (R.getD i [])) 16) 255) = true := by
    rw [mask8]; unfold val8 upto; simp; omega
  simp only [Int.ofNat_lt, hi, hi3, decide_true, cond_true, Int.natCast_nonneg, Bool.and_self, Int.toNat_natCast, List.drop_zero, hj1, hk, hk3, hc, hl4, hA, hC, Nat.zero_add, Nat.le_refl, true_and, wi]
  intro P0 P1 P2 P3 e hp
  have hok := pok4 hf 3 0 _ hv rfl
  unfold putR at hp
  rw [hok] at hp
  obtain ⟨rfl, rfl, rfl, rfl, rfl⟩ := hp
  have hq : (pe true != 0) = false := rfl
  rw [hq, cond_false]
  exact h _ hv
theorem e7r_13 (an : Int → Int → Int) (R sp : List (List D)) (i : Int) (n0 : Nat) (m0 : Nat) (n1 : Nat) (m1 : Nat) (n2 : Nat) (m2 : Nat) (n3 : Nat) (m3 : Nat) (P0 : List (List D)) (P1 : List (List D)) (P2 : List (List D)) (P3 : List (List D)) (w0 : Int) (w1 : Int) (w2 : Int) (w3 : Int) (w4 : Int) (w5 : Int) (w6 : Int) (w7 : Int) (w8 : Int) (w9 : Int) (w10 : Int) (w11 : Int) (w12 : Int) (w13 : Int) (w14 : Int) (w15 : Int) (N : X → Prop) (E : Exit → X → Prop) : (roundW Try.prog (gK an [(43, 13), (55, 1)] [(22, sGetC), (24, sPutC), (27, sI)]) Try.f7 0 [(23000, 58000), (23001, 58001), (23002, 58002), (23003, 58003)] [0, 3, 5, 6] [4, 23000, 23001, 23002, 23003, 6] (v_st7 R sp) (v_st7 R sp) N E (st7 R sp i n0 m0 n1 m1 n2 m2 n3 m3 P0 P1 P2 P3 w0 w1 w2 w3 w4 w5 w6 w7 w8 w9 w10 w11 w12 w13 w14 w15)) = (bif decide (i < @Nat.cast Int _ (List.length R)) then bif decide (i < 40) then bif decide (0 ≤ i) && decide (i < @Nat.cast Int _ (List.length R)) then bif isJ [IntKind.i64] (List.drop (0) (List.getD R (Int.toNat i) [])) then an (hdJ (List.drop (0) (List.getD R (Int.toNat i) []))) (15) = 13 ∧ bif decide (0 ≤ i) && decide (i < @Nat.cast Int _ (List.length R)) then bif isJ [IntKind.i64] (List.drop (0) (List.getD R (Int.toNat i) [])) then an (13) (3) = 1 ∧ bif decide (0 + n0 ≤ List.length P0) then bif decide (0 + n1 ≤ List.length P1) then bif decide (0 + n2 ≤ List.length P2) then bif decide (0 + n3 ≤ List.length P3) then bif okA (cut P0 (0) n0) (cut P1 (0) n1) (cut P2 (0) n2) (cut P3 (0) n3) && okC4 (cut P0 (0) n0) (cut P1 (0) n1) (cut P2 (0) n2) (cut P3 (0) n3) then ∀ (P0_1 P1_1 P2_1 P3_1 : List (List D)) (e : Int), putR (cut P0 (0) n0) (cut P1 (0) n1) (cut P2 (0) n2) (cut P3 (0) n3) (3) (1) (an (Int.fdiv (hdJ (List.drop (0) (List.getD R (Int.toNat i) []))) (16)) (255)) (0) (0) P0_1 P1_1 P2_1 P3_1 e → bif e != 0 then st7 R sp i n0 m0 n1 m1 n2 m2 n3 m3 P0 P1 P2 P3 w0 w1 w2 w3 w4 w5 w6 w7 w8 w9 w10 w11 w12 w13 w14 w15 = st7 R sp i n0 m0 n1 m1 n2 m2 n3 m3 P0 P1 P2 P3 w0 w1 w2 w3 w4 w5 w6 w7 w8 w9 w10 w11 w12 w13 w14 w15 ∧ E Exit.ret (st7 R sp i n0 m0 n1 m1 n2 m2 n3 m3 P0 P1 P2 P3 w0 w1 w2 w3 w4 w5 w6 w7 w8 w9 w10 w11 w12 w13 w14 w15) else st7 R sp (IntKind.wrap IntKind.i64 (i + 1)) (List.length P0_1) (List.length P0_1 + 0) (List.length P1_1) (List.length P1_1 + 0) (List.length P2_1) (List.length P2_1 + 0) (List.length P3_1) (List.length P3_1 + 0) (P0_1 ++ []) (P1_1 ++ []) (P2_1 ++ []) (P3_1 ++ []) w0 w1 w2 w3 w4 w5 w6 w7 w8 w9 w10 w11 w12 (an (Int.fdiv (hdJ (List.drop (0) (List.getD R (Int.toNat i) []))) (16)) (255)) w14 w15 = st7 R sp (IntKind.wrap IntKind.i64 (i + 1)) (List.length P0_1) (List.length P0_1 + 0) (List.length P1_1) (List.length P1_1 + 0) (List.length P2_1) (List.length P2_1 + 0) (List.length P3_1) (List.length P3_1 + 0) (P0_1 ++ []) (P1_1 ++ []) (P2_1 ++ []) (P3_1 ++ []) w0 w1 w2 w3 w4 w5 w6 w7 w8 w9 w10 w11 w12 (an (Int.fdiv (hdJ (List.drop (0) (List.getD R (Int.toNat i) []))) (16)) (255)) w14 w15 ∧ N (st7 R sp (IntKind.wrap IntKind.i64 (i + 1)) (List.length P0_1) (List.length P0_1 + 0) (List.length P1_1) (List.length P1_1 + 0) (List.length P2_1) (List.length P2_1 + 0) (List.length P3_1) (List.length P3_1 + 0) (P0_1 ++ []) (P1_1 ++ []) (P2_1 ++ []) (P3_1 ++ []) w0 w1 w2 w3 w4 w5 w6 w7 w8 w9 w10 w11 w12 (an (Int.fdiv (hdJ (List.drop (0) (List.getD R (Int.toNat i) []))) (16)) (255)) w14 w15) else False else False else False else False else False else False else False else False else False else st7 R sp i n0 m0 n1 m1 n2 m2 n3 m3 P0 P1 P2 P3 w0 w1 w2 w3 w4 w5 w6 w7 w8 w9 w10 w11 w12 w13 w14 w15 = st7 R sp i n0 m0 n1 m1 n2 m2 n3 m3 P0 P1 P2 P3 w0 w1 w2 w3 w4 w5 w6 w7 w8 w9 w10 w11 w12 w13 w14 w15 ∧ E (Exit.exit (0)) (st7 R sp i n0 m0 n1 m1 n2 m2 n3 m3 P0 P1 P2 P3 w0 w1 w2 w3 w4 w5 w6 w7 w8 w9 w10 w11 w12 w13 w14 w15) else st7 R sp i n0 m0 n1 m1 n2 m2 n3 m3 P0 P1 P2 P3 w0 w1 w2 w3 w4 w5 w6 w7 w8 w9 w10 w11 w12 w13 w14 w15 = st7 R sp i n0 m0 n1 m1 n2 m2 n3 m3 P0 P1 P2 P3 w0 w1 w2 w3 w4 w5 w6 w7 w8 w9 w10 w11 w12 w13 w14 w15 ∧ E (Exit.exit (0)) (st7 R sp i n0 m0 n1 m1 n2 m2 n3 m3 P0 P1 P2 P3 w0 w1 w2 w3 w4 w5 w6 w7 w8 w9 w10 w11 w12 w13 w14 w15)) := by kernel_rfl
theorem r7_13 {R sp : List (List D)} {f : Nat → Int} {i : Nat} (hR : okZ 1 R = true) (hf : ∀ n, val8 (f n) = true) (hi : i < R.length) (hi2 : i < 40) (hk : band (hdJ (R.getD i [])) 15 = 13) {N : X → Prop} {E : Exit → X → Prop}
    (h : ∀ v, val8 v = true → N (sf7 R sp (upd f 13 v) ((i + 1 : Nat) : Int))) : roundW Try.prog (gK band [(43, 13), (55, 1)] [(22, sGetC), (24, sPutC), (27, sI)]) Try.f7 0 [(23000, 58000), (23001, 58001), (23002, 58002), (23003, 58003)] [0, 3, 5, 6] [4, 23000, 23001, 23002, 23003, 6] (v_st7 R sp) (v_st7 R sp) N E (sf7 R sp f i) := by
  unfold sf7
  rw [e7r_13]
  obtain ⟨el, hw, hn⟩ := okZ_spec hR
  have hll : i < (toZ R).length := by rw [toZ_len]; exact hi
  have hj1 : isJ [IntKind.i64] (R.getD i []) = true := by
    rw [el]; exact isJ_mZ (j := 0) (n := 1) hw hll (by omega)
  have wi : IntKind.wrap .i64 ((i : Int) + 1) = ((i + 1 : Nat) : Int) := wrap_nat (n := 1) (by omega)
  have hi3 : (i : Int) < 40 := by omega
  have hk3 : band 13 3 = 1 := by rw [mask2]; rfl
  have hc : ∀ j, cut (rw4 f j) 0 4 = rw4 f j := fun j => rfl
  have hl4 : ∀ j, (rw4 f j).length = 4 := fun j => rfl
  have hA : okA (rw4 f 0) (rw4 f 4) (rw4 f 8) (rw4 f 12) = true := rfl
  have hC : okC4 (rw4 f 0) (rw4 f 4) (rw4 f 8) (rw4 f 12) = true := rfl
  have hv : val8 (band (Int.fdiv (hdJ (R.getD i [])) 16) 255) = true := by
    rw [mask8]; unfold val8 upto; simp; omega
  simp only [Int.ofNat_lt, hi, hi3, decide_true, cond_true, Int.natCast_nonneg, Bool.and_self, Int.toNat_natCast, List.drop_zero, hj1, hk, hk3, hc, hl4, hA, hC, Nat.zero_add, Nat.le_refl, true_and, wi]
  intro P0 P1 P2 P3 e hp
  have hok := pok4 hf 3 1 _ hv rfl
  unfold putR at hp
  rw [hok] at hp
  obtain ⟨rfl, rfl, rfl, rfl, rfl⟩ := hp
  have hq : (pe true != 0) = false := rfl
  rw [hq, cond_false]
  exact h _ hv
theorem e7r_14 (an : Int → Int → Int) (R sp : List (List D)) (i : Int) (n0 : Nat) (m0 : Nat) (n1 : Nat) (m1 : Nat) (n2 : Nat) (m2 : Nat) (n3 : Nat) (m3 : Nat) (P0 : List (List D)) (P1 : List (List D)) (P2 : List (List D)) (P3 : List (List D)) (w0 : Int) (w1 : Int) (w2 : Int) (w3 : Int) (w4 : Int) (w5 : Int) (w6 : Int) (w7 : Int) (w8 : Int) (w9 : Int) (w10 : Int) (w11 : Int) (w12 : Int) (w13 : Int) (w14 : Int) (w15 : Int) (N : X → Prop) (E : Exit → X → Prop) : (roundW Try.prog (gK an [(43, 14), (55, 2)] [(22, sGetC), (24, sPutC), (27, sI)]) Try.f7 0 [(23000, 58000), (23001, 58001), (23002, 58002), (23003, 58003)] [0, 3, 5, 6] [4, 23000, 23001, 23002, 23003, 6] (v_st7 R sp) (v_st7 R sp) N E (st7 R sp i n0 m0 n1 m1 n2 m2 n3 m3 P0 P1 P2 P3 w0 w1 w2 w3 w4 w5 w6 w7 w8 w9 w10 w11 w12 w13 w14 w15)) = (bif decide (i < @Nat.cast Int _ (List.length R)) then bif decide (i < 40) then bif decide (0 ≤ i) && decide (i < @Nat.cast Int _ (List.length R)) then bif isJ [IntKind.i64] (List.drop (0) (List.getD R (Int.toNat i) [])) then an (hdJ (List.drop (0) (List.getD R (Int.toNat i) []))) (15) = 14 ∧ bif decide (0 ≤ i) && decide (i < @Nat.cast Int _ (List.length R)) then bif isJ [IntKind.i64] (List.drop (0) (List.getD R (Int.toNat i) [])) then an (14) (3) = 2 ∧ bif decide (0 + n0 ≤ List.length P0) then bif decide (0 + n1 ≤ List.length P1) then bif decide (0 + n2 ≤ List.length P2) then bif decide (0 + n3 ≤ List.length P3) then bif okA (cut P0 (0) n0) (cut P1 (0) n1) (cut P2 (0) n2) (cut P3 (0) n3) && okC4 (cut P0 (0) n0) (cut P1 (0) n1) (cut P2 (0) n2) (cut P3 (0) n3) then ∀ (P0_1 P1_1 P2_1 P3_1 : List (List D)) (e : Int), putR (cut P0 (0) n0) (cut P1 (0) n1) (cut P2 (0) n2) (cut P3 (0) n3) (3) (2) (an (Int.fdiv (hdJ (List.drop (0) (List.getD R (Int.toNat i) []))) (16)) (255)) (0) (0) P0_1 P1_1 P2_1 P3_1 e → bif e != 0 then st7 R sp i n0 m0 n1 m1 n2 m2 n3 m3 P0 P1 P2 P3 w0 w1 w2 w3 w4 w5 w6 w7 w8 w9 w10 w11 w12 w13 w14 w15 = st7 R sp i n0 m0 n1 m1 n2 m2 n3 m3 P0 P1 P2 P3 w0 w1 w2 w3 w4 w5 w6 w7 w8 w9 w10 w11 w12 w13 w14 w15 ∧ E Exit.ret (st7 R sp i n0 m0 n1 m1 n2 m2 n3 m3 P0 P1 P2 P3 w0 w1 w2 w3 w4 w5 w6 w7 w8 w9 w10 w11 w12 w13 w14 w15) else st7 R sp (IntKind.wrap IntKind.i64 (i + 1)) (List.length P0_1) (List.length P0_1 + 0) (List.length P1_1) (List.length P1_1 + 0) (List.length P2_1) (List.length P2_1 + 0) (List.length P3_1) (List.length P3_1 + 0) (P0_1 ++ []) (P1_1 ++ []) (P2_1 ++ []) (P3_1 ++ []) w0 w1 w2 w3 w4 w5 w6 w7 w8 w9 w10 w11 w12 w13 (an (Int.fdiv (hdJ (List.drop (0) (List.getD R (Int.toNat i) []))) (16)) (255)) w15 = st7 R sp (IntKind.wrap IntKind.i64 (i + 1)) (List.length P0_1) (List.length P0_1 + 0) (List.length P1_1) (List.length P1_1 + 0) (List.length P2_1) (List.length P2_1 + 0) (List.length P3_1) (List.length P3_1 + 0) (P0_1 ++ []) (P1_1 ++ []) (P2_1 ++ []) (P3_1 ++ []) w0 w1 w2 w3 w4 w5 w6 w7 w8 w9 w10 w11 w12 w13 (an (Int.fdiv (hdJ (List.drop (0) (List.getD R (Int.toNat i) []))) (16)) (255)) w15 ∧ N (st7 R sp (IntKind.wrap IntKind.i64 (i + 1)) (List.length P0_1) (List.length P0_1 + 0) (List.length P1_1) (List.length P1_1 + 0) (List.length P2_1) (List.length P2_1 + 0) (List.length P3_1) (List.length P3_1 + 0) (P0_1 ++ []) (P1_1 ++ []) (P2_1 ++ []) (P3_1 ++ []) w0 w1 w2 w3 w4 w5 w6 w7 w8 w9 w10 w11 w12 w13 (an (Int.fdiv (hdJ (List.drop (0) (List.getD R (Int.toNat i) []))) (16)) (255)) w15) else False else False else False else False else False else False else False else False else False else st7 R sp i n0 m0 n1 m1 n2 m2 n3 m3 P0 P1 P2 P3 w0 w1 w2 w3 w4 w5 w6 w7 w8 w9 w10 w11 w12 w13 w14 w15 = st7 R sp i n0 m0 n1 m1 n2 m2 n3 m3 P0 P1 P2 P3 w0 w1 w2 w3 w4 w5 w6 w7 w8 w9 w10 w11 w12 w13 w14 w15 ∧ E (Exit.exit (0)) (st7 R sp i n0 m0 n1 m1 n2 m2 n3 m3 P0 P1 P2 P3 w0 w1 w2 w3 w4 w5 w6 w7 w8 w9 w10 w11 w12 w13 w14 w15) else st7 R sp i n0 m0 n1 m1 n2 m2 n3 m3 P0 P1 P2 P3 w0 w1 w2 w3 w4 w5 w6 w7 w8 w9 w10 w11 w12 w13 w14 w15 = st7 R sp i n0 m0 n1 m1 n2 m2 n3 m3 P0 P1 P2 P3 w0 w1 w2 w3 w4 w5 w6 w7 w8 w9 w10 w11 w12 w13 w14 w15 ∧ E (Exit.exit (0)) (st7 R sp i n0 m0 n1 m1 n2 m2 n3 m3 P0 P1 P2 P3 w0 w1 w2 w3 w4 w5 w6 w7 w8 w9 w10 w11 w12 w13 w14 w15)) := by kernel_rfl
theorem r7_14 {R sp : List (List D)} {f : Nat → Int} {i : Nat} (hR : okZ 1 R = true) (hf : ∀ n, val8 (f n) = true) (hi : i < R.length) (hi2 : i < 40) (hk : band (hdJ (R.getD i [])) 15 = 14) {N : X → Prop} {E : Exit → X → Prop}
    (h : ∀ v, val8 v = true → N (sf7 R sp (upd f 14 v) ((i + 1 : Nat) : Int))) : roundW Try.prog (gK band [(43, 14), (55, 2)] [(22, sGetC), (24, sPutC), (27, sI)]) Try.f7 0 [(23000, 58000), (23001, 58001), (23002, 58002), (23003, 58003)] [0, 3, 5, 6] [4, 23000, 23001, 23002, 23003, 6] (v_st7 R sp) (v_st7 R sp) N E (sf7 R sp f i) := by
  unfold sf7
  rw [e7r_14]
  obtain ⟨el, hw, hn⟩ := okZ_spec hR
  have hll : i < (toZ R).length := by rw [toZ_len]; exact hi
  have hj1 : isJ [IntKind.i64] (R.getD i []) = true := by
    rw [el]; exact isJ_mZ (j := 0) (n := 1) hw hll (by omega)
  have wi : IntKind.wrap .i64 ((i : Int) + 1) = ((i + 1 : Nat) : Int) := wrap_nat (n := 1) (by omega)
  have hi3 : (i : Int) < 40 := by omega
  have hk3 : band 14 3 = 2 := by rw [mask2]; rfl
  have hc : ∀ j, cut (rw4 f j) 0 4 = rw4 f j := fun j => rfl
  have hl4 : ∀ j, (rw4 f j).length = 4 := fun j => rfl
  have hA : okA (rw4 f 0) (rw4 f 4) (rw4 f 8) (rw4 f 12) = true := rfl
  have hC : okC4 (rw4 f 0) (rw4 f 4) (rw4 f 8) (rw4 f 12) = true := rfl
  have hv : val8 (band (Int.fdiv (hdJ (R.getD i [])) 16) 255) = true := by
    rw [mask8]; unfold val8 upto; simp; omega
  simp only [Int.ofNat_lt, hi, hi3, decide_true, cond_true, Int.natCast_nonneg, Bool.and_self, Int.toNat_natCast, List.drop_zero, hj1, hk, hk3, hc, hl4, hA, hC, Nat.zero_add, Nat.le_refl, true_and, wi]
  intro P0 P1 P2 P3 e hp
  have hok := pok4 hf 3 2 _ hv rfl
  unfold putR at hp
  rw [hok] at hp
  obtain ⟨rfl, rfl, rfl, rfl, rfl⟩ := hp
  have hq : (pe true != 0) = false := rfl
  rw [hq, cond_false]
  exact h _ hv
theorem e7r_15 (an : Int → Int → Int) (R sp : List (List D)) (i : Int) (n0 : Nat) (m0 : Nat) (n1 : Nat) (m1 : Nat) (n2 : Nat) (m2 : Nat) (n3 : Nat) (m3 : Nat) (P0 : List (List D)) (P1 : List (List D)) (P2 : List (List D)) (P3 : List (List D)) (w0 : Int) (w1 : Int) (w2 : Int) (w3 : Int) (w4 : Int) (w5 : Int) (w6 : Int) (w7 : Int) (w8 : Int) (w9 : Int) (w10 : Int) (w11 : Int) (w12 : Int) (w13 : Int) (w14 : Int) (w15 : Int) (N : X → Prop) (E : Exit → X → Prop) : (roundW Try.prog (gK an [(43, 15), (55, 3)] [(22, sGetC), (24, sPutC), (27, sI)]) Try.f7 0 [(23000, 58000), (23001, 58001), (23002, 58002), (23003, 58003)] [0, 3, 5, 6] [4, 23000, 23001, 23002, 23003, 6] (v_st7 R sp) (v_st7 R sp) N E (st7 R sp i n0 m0 n1 m1 n2 m2 n3 m3 P0 P1 P2 P3 w0 w1 w2 w3 w4 w5 w6 w7 w8 w9 w10 w11 w12 w13 w14 w15)) = (bif decide (i < @Nat.cast Int _ (List.length R)) then bif decide (i < 40) then bif decide (0 ≤ i) && decide (i < @Nat.cast Int _ (List.length R)) then bif isJ [IntKind.i64] (List.drop (0) (List.getD R (Int.toNat i) [])) then an (hdJ (List.drop (0) (List.getD R (Int.toNat i) []))) (15) = 15 ∧ bif decide (0 ≤ i) && decide (i < @Nat.cast Int _ (List.length R)) then bif isJ [IntKind.i64] (List.drop (0) (List.getD R (Int.toNat i) [])) then an (15) (3) = 3 ∧ bif decide (0 + n0 ≤ List.length P0) then bif decide (0 + n1 ≤ List.length P1) then bif decide (0 + n2 ≤ List.length P2) then bif decide (0 + n3 ≤ List.length P3) then bif okA (cut P0 (0) n0) (cut P1 (0) n1) (cut P2 (0) n2) (cut P3 (0) n3) && okC4 (cut P0 (0) n0) (cut P1 (0) n1) (cut P2 (0) n2) (cut P3 (0) n3) then ∀ (P0_1 P1_1 P2_1 P3_1 : List (List D)) (e : Int), putR (cut P0 (0) n0) (cut P1 (0) n1) (cut P2 (0) n2) (cut P3 (0) n3) (3) (3) (an (Int.fdiv (hdJ (List.drop (0) (List.getD R (Int.toNat i) []))) (16)) (255)) (0) (0) P0_1 P1_1 P2_1 P3_1 e → bif e != 0 then st7 R sp i n0 m0 n1 m1 n2 m2 n3 m3 P0 P1 P2 P3 w0 w1 w2 w3 w4 w5 w6 w7 w8 w9 w10 w11 w12 w13 w14 w15 = st7 R sp i n0 m0 n1 m1 n2 m2 n3 m3 P0 P1 P2 P3 w0 w1 w2 w3 w4 w5 w6 w7 w8 w9 w10 w11 w12 w13 w14 w15 ∧ E Exit.ret (st7 R sp i n0 m0 n1 m1 n2 m2 n3 m3 P0 P1 P2 P3 w0 w1 w2 w3 w4 w5 w6 w7 w8 w9 w10 w11 w12 w13 w14 w15) else st7 R sp (IntKind.wrap IntKind.i64 (i + 1)) (List.length P0_1) (List.length P0_1 + 0) (List.length P1_1) (List.length P1_1 + 0) (List.length P2_1) (List.length P2_1 + 0) (List.length P3_1) (List.length P3_1 + 0) (P0_1 ++ []) (P1_1 ++ []) (P2_1 ++ []) (P3_1 ++ []) w0 w1 w2 w3 w4 w5 w6 w7 w8 w9 w10 w11 w12 w13 w14 (an (Int.fdiv (hdJ (List.drop (0) (List.getD R (Int.toNat i) []))) (16)) (255)) = st7 R sp (IntKind.wrap IntKind.i64 (i + 1)) (List.length P0_1) (List.length P0_1 + 0) (List.length P1_1) (List.length P1_1 + 0) (List.length P2_1) (List.length P2_1 + 0) (List.length P3_1) (List.length P3_1 + 0) (P0_1 ++ []) (P1_1 ++ []) (P2_1 ++ []) (P3_1 ++ []) w0 w1 w2 w3 w4 w5 w6 w7 w8 w9 w10 w11 w12 w13 w14 (an (Int.fdiv (hdJ (List.drop (0) (List.getD R (Int.toNat i) []))) (16)) (255)) ∧ N (st7 R sp (IntKind.wrap IntKind.i64 (i + 1)) (List.length P0_1) (List.length P0_1 + 0) (List.length P1_1) (List.length P1_1 + 0) (List.length P2_1) (List.length P2_1 + 0) (List.length P3_1) (List.length P3_1 + 0) (P0_1 ++ []) (P1_1 ++ []) (P2_1 ++ []) (P3_1 ++ []) w0 w1 w2 w3 w4 w5 w6 w7 w8 w9 w10 w11 w12 w13 w14 (an (Int.fdiv (hdJ (List.drop (0) (List.getD R (Int.toNat i) []))) (16)) (255))) else False else False else False else False else False else False else False else False else False else st7 R sp i n0 m0 n1 m1 n2 m2 n3 m3 P0 P1 P2 P3 w0 w1 w2 w3 w4 w5 w6 w7 w8 w9 w10 w11 w12 w13 w14 w15 = st7 R sp i n0 m0 n1 m1 n2 m2 n3 m3 P0 P1 P2 P3 w0 w1 w2 w3 w4 w5 w6 w7 w8 w9 w10 w11 w12 w13 w14 w15 ∧ E (Exit.exit (0)) (st7 R sp i n0 m0 n1 m1 n2 m2 n3 m3 P0 P1 P2 P3 w0 w1 w2 w3 w4 w5 w6 w7 w8 w9 w10 w11 w12 w13 w14 w15) else st7 R sp i n0 m0 n1 m1 n2 m2 n3 m3 P0 P1 P2 P3 w0 w1 w2 w3 w4 w5 w6 w7 w8 w9 w10 w11 w12 w13 w14 w15 = st7 R sp i n0 m0 n1 m1 n2 m2 n3 m3 P0 P1 P2 P3 w0 w1 w2 w3 w4 w5 w6 w7 w8 w9 w10 w11 w12 w13 w14 w15 ∧ E (Exit.exit (0)) (st7 R sp i n0 m0 n1 m1 n2 m2 n3 m3 P0 P1 P2 P3 w0 w1 w2 w3 w4 w5 w6 w7 w8 w9 w10 w11 w12 w13 w14 w15)) := by kernel_rfl
theorem r7_15 {R sp : List (List D)} {f : Nat → Int} {i : Nat} (hR : okZ 1 R = true) (hf : ∀ n, val8 (f n) = true) (hi : i < R.length) (hi2 : i < 40) (hk : band (hdJ (R.getD i [])) 15 = 15) {N : X → Prop} {E : Exit → X → Prop}
    (h : ∀ v, val8 v = true → N (sf7 R sp (upd f 15 v) ((i + 1 : Nat) : Int))) : roundW Try.prog (gK band [(43, 15), (55, 3)] [(22, sGetC), (24, sPutC), (27, sI)]) Try.f7 0 [(23000, 58000), (23001, 58001), (23002, 58002), (23003, 58003)] [0, 3, 5, 6] [4, 23000, 23001, 23002, 23003, 6] (v_st7 R sp) (v_st7 R sp) N E (sf7 R sp f i) := by
  unfold sf7
  rw [e7r_15]
  obtain ⟨el, hw, hn⟩ := okZ_spec hR
  have hll : i < (toZ R).length := by rw [toZ_len]; exact hi
  have hj1 : isJ [IntKind.i64] (R.getD i []) = true := by
    rw [el]; exact isJ_mZ (j := 0) (n := 1) hw hll (by omega)
  have wi : IntKind.wrap .i64 ((i : Int) + 1) = ((i + 1 : Nat) : Int) := wrap_nat (n := 1) (by omega)
  have hi3 : (i : Int) < 40 := by omega
  have hk3 : band 15 3 = 3 := by rw [mask2]; rfl
  have hc : ∀ j, cut (rw4 f j) 0 4 = rw4 f j := fun j => rfl
  have hl4 : ∀ j, (rw4 f j).length = 4 := fun j => rfl
  have hA : okA (rw4 f 0) (rw4 f 4) (rw4 f 8) (rw4 f 12) = true := rfl
  have hC : okC4 (rw4 f 0) (rw4 f 4) (rw4 f 8) (rw4 f 12) = true := rfl
  have hv : val8 (band (Int.fdiv (hdJ (R.getD i [])) 16) 255) = true := by
    rw [mask8]; unfold val8 upto; simp; omega
  simp only [Int.ofNat_lt, hi, hi3, decide_true, cond_true, Int.natCast_nonneg, Bool.and_self, Int.toNat_natCast, List.drop_zero, hj1, hk, hk3, hc, hl4, hA, hC, Nat.zero_add, Nat.le_refl, true_and, wi]
  intro P0 P1 P2 P3 e hp
  have hok := pok4 hf 3 3 _ hv rfl
  unfold putR at hp
  rw [hok] at hp
  obtain ⟨rfl, rfl, rfl, rfl, rfl⟩ := hp
  have hq : (pe true != 0) = false := rfl
  rw [hq, cond_false]
  exact h _ hv
def s7 (R sp : List (List D)) : LSum := fun Q x => x.arr [0, 3, 5, 6] [4, 23000, 23001, 23002, 23003, 6] = sf7 R sp (fun _ => 0) 0 ∧ ∀ (f : Nat → Int) (i : Int), (∀ n, val8 (f n) = true) → Q (.exit 0) (sf7 R sp f i)
theorem x7_0 {R sp : List (List D)} {Q : Exit → X → Prop} {f : Nat → Int} {i : Nat} (hS : SpecsOK Try.prog [(22, sGetC), (24, sPutC), (27, sI)]) (hR : okZ 1 R = true) (hf : ∀ n, val8 (f n) = true) (h1 : i < R.length) (h2 : i < 40) (hk : band (hdJ (R.getD i [])) 15 = 0) :
    ∃ H, CallsOK Try.prog H ∧ LoopsOK Try.prog H (bodyL Try.f7 0) ∧ roundW Try.prog H Try.f7 0 [(23000, 58000), (23001, 58001), (23002, 58002), (23003, 58003)] [0, 3, 5, 6] [4, 23000, 23001, 23002, 23003, 6] (v_st7 R sp) (v_st7 R sp) (fun y => ∃ p' : (Nat → Int) × Nat, R.length - p'.2 < R.length - i ∧ ((∀ n, val8 (p'.1 n) = true) ∧ p'.2 ≤ R.length) ∧ y = sf7 R sp p'.1 p'.2) Q (sf7 R sp f i) := by
  refine ⟨_, gK_ok [(43, 0), (55, 0)] hS, loops_nil rfl, r7_0 hR hf h1 h2 hk (fun v hv => ⟨(upd f 0 v, i + 1), ?_, ⟨upd_all hf hv, h1⟩, rfl⟩)⟩
  show R.length - (i + 1) < R.length - i
  omega
theorem x7_1 {R sp : List (List D)} {Q : Exit → X → Prop} {f : Nat → Int} {i : Nat} (hS : SpecsOK Try.prog [(22, sGetC), (24, sPutC), (27, sI)]) (hR : okZ 1 R = true) (hf : ∀ n, val8 (f n) = true) (h1 : i < R.length) (h2 : i < 40) (hk : band (hdJ (R.getD i [])) 15 = 1) :
    ∃ H, CallsOK Try.prog H ∧ LoopsOK Try.prog H (bodyL Try.f7 0) ∧ roundW Try.prog H Try.f7 0 [(23000, 58000), (23001, 58001), (23002, 58002), (23003, 58003)] [0, 3, 5, 6] [4, 23000, 23001, 23002, 23003, 6] (v_st7 R sp) (v_st7 R sp) (fun y => ∃ p' : (Nat → Int) × Nat, R.length - p'.2 < R.length - i ∧ ((∀ n, val8 (p'.1 n) = true) ∧ p'.2 ≤ R.length) ∧ y = sf7 R sp p'.1 p'.2) Q (sf7 R sp f i) := by
  refine ⟨_, gK_ok [(43, 1), (55, 1)] hS, loops_nil rfl, r7_1 hR hf h1 h2 hk (fun v hv => ⟨(upd f 1 v, i + 1), ?_, ⟨upd_all hf hv, h1⟩, rfl⟩)⟩
  show R.length - (i + 1) < R.length - i
  omega
theorem x7_2 {R sp : List (List D)} {Q : Exit → X → Prop} {f : Nat → Int} {i : Nat} (hS : SpecsOK Try.prog [(22, sGetC), (24, sPutC), (27, sI)]) (hR : okZ 1 R = true) (hf : ∀ n, val8 (f n) = true) (h1 : i < R.length) (h2 : i < 40) (hk : band (hdJ (R.getD i [])) 15 = 2) :
    ∃ H, CallsOK Try.prog H ∧ LoopsOK Try.prog H (bodyL Try.f7 0) ∧ roundW Try.prog H Try.f7 0 [(23000, 58000), (23001, 58001), (23002, 58002), (23003, 58003)] [0, 3, 5, 6] [4, 23000, 23001, 23002, 23003, 6] (v_st7 R sp) (v_st7 R sp) (fun y => ∃ p' : (Nat → Int) × Nat, R.length - p'.2 < R.length - i ∧ ((∀ n, val8 (p'.1 n) = true) ∧ p'.2 ≤ R.length) ∧ y = sf7 R sp p'.1 p'.2) Q (sf7 R sp f i) := by
  refine ⟨_, gK_ok [(43, 2), (55, 2)] hS, loops_nil rfl, r7_2 hR hf h1 h2 hk (fun v hv => ⟨(upd f 2 v, i + 1), ?_, ⟨upd_all hf hv, h1⟩, rfl⟩)⟩
  show R.length - (i + 1) < R.length - i
  omega
theorem x7_3 {R sp : List (List D)} {Q : Exit → X → Prop} {f : Nat → Int} {i : Nat} (hS : SpecsOK Try.prog [(22, sGetC), (24, sPutC), (27, sI)]) (hR : okZ 1 R = true) (hf : ∀ n, val8 (f n) = true) (h1 : i < R.length) (h2 : i < 40) (hk : band (hdJ (R.getD i [])) 15 = 3) :
    ∃ H, CallsOK Try.prog H ∧ LoopsOK Try.prog H (bodyL Try.f7 0) ∧ roundW Try.prog H Try.f7 0 [(23000, 58000), (23001, 58001), (23002, 58002), (23003, 58003)] [0, 3, 5, 6] [4, 23000, 23001, 23002, 23003, 6] (v_st7 R sp) (v_st7 R sp) (fun y => ∃ p' : (Nat → Int) × Nat, R.length - p'.2 < R.length - i ∧ ((∀ n, val8 (p'.1 n) = true) ∧ p'.2 ≤ R.length) ∧ y = sf7 R sp p'.1 p'.2) Q (sf7 R sp f i) := by
  refine ⟨_, gK_ok [(43, 3), (55, 3)] hS, loops_nil rfl, r7_3 hR hf h1 h2 hk (fun v hv => ⟨(upd f 3 v, i + 1), ?_, ⟨upd_all hf hv, h1⟩, rfl⟩)⟩
  show R.length - (i + 1) < R.length - i
  omega
theorem x7_4 {R sp : List (List D)} {Q : Exit → X → Prop} {f : Nat → Int} {i : Nat} (hS : SpecsOK Try.prog [(22, sGetC), (24, sPutC), (27, sI)]) (hR : okZ 1 R = true) (hf : ∀ n, val8 (f n) = true) (h1 : i < R.length) (h2 : i < 40) (hk : band (hdJ (R.getD i [])) 15 = 4) :
    ∃ H, CallsOK Try.prog H ∧ LoopsOK Try.prog H (bodyL Try.f7 0) ∧ roundW Try.prog H Try.f7 0 [(23000, 58000), (23001, 58001), (23002, 58002), (23003, 58003)] [0, 3, 5, 6] [4, 23000, 23001, 23002, 23003, 6] (v_st7 R sp) (v_st7 R sp) (fun y => ∃ p' : (Nat → Int) × Nat, R.length - p'.2 < R.length - i ∧ ((∀ n, val8 (p'.1 n) = true) ∧ p'.2 ≤ R.length) ∧ y = sf7 R sp p'.1 p'.2) Q (sf7 R sp f i) := by
  refine ⟨_, gK_ok [(43, 4), (55, 0)] hS, loops_nil rfl, r7_4 hR hf h1 h2 hk (fun v hv => ⟨(upd f 4 v, i + 1), ?_, ⟨upd_all hf hv, h1⟩, rfl⟩)⟩
  show R.length - (i + 1) < R.length - i
  omega
theorem x7_5 {R sp : List (List D)} {Q : Exit → X → Prop} {f : Nat → Int} {i : Nat} (hS : SpecsOK Try.prog [(22, sGetC), (24, sPutC), (27, sI)]) (hR : okZ 1 R = true) (hf : ∀ n, val8 (f n) = true) (h1 : i < R.length) (h2 : i < 40) (hk : band (hdJ (R.getD i [])) 15 = 5) :
    ∃ H, CallsOK Try.prog H ∧ LoopsOK Try.prog H (bodyL Try.f7 0) ∧ roundW Try.prog H Try.f7 0 [(23000, 58000), (23001, 58001), (23002, 58002), (23003, 58003)] [0, 3, 5, 6] [4, 23000, 23001, 23002, 23003, 6] (v_st7 R sp) (v_st7 R sp) (fun y => ∃ p' : (Nat → Int) × Nat, R.length - p'.2 < R.length - i ∧ ((∀ n, val8 (p'.1 n) = true) ∧ p'.2 ≤ R.length) ∧ y = sf7 R sp p'.1 p'.2) Q (sf7 R sp f i) := by
  refine ⟨_, gK_ok [(43, 5), (55, 1)] hS, loops_nil rfl, r7_5 hR hf h1 h2 hk (fun v hv => ⟨(upd f 5 v, i + 1), ?_, ⟨upd_all hf hv, h1⟩, rfl⟩)⟩
  show R.length - (i + 1) < R.length - i
  omega
theorem x7_6 {R sp : List (List D)} {Q : Exit → X → Prop} {f : Nat → Int} {i : Nat} (hS : SpecsOK Try.prog [(22, sGetC), (24, sPutC), (27, sI)]) (hR : okZ 1 R = true) (hf : ∀ n, val8 (f n) = true) (h1 : i < R.length) (h2 : i < 40) (hk : band (hdJ (R.getD i [])) 15 = 6) :
    ∃ H, CallsOK Try.prog H ∧ LoopsOK Try.prog H (bodyL Try.f7 0) ∧ roundW Try.prog H Try.f7 0 [(23000, 58000), (23001, 58001), (23002, 58002), (23003, 58003)] [0, 3, 5, 6] [4, 23000, 23001, 23002, 23003, 6] (v_st7 R sp) (v_st7 R sp) (fun y => ∃ p' : (Nat → Int) × Nat, R.length - p'.2 < R.length - i ∧ ((∀ n, val8 (p'.1 n) = true) ∧ p'.2 ≤ R.length) ∧ y = sf7 R sp p'.1 p'.2) Q (sf7 R sp f i) := by
  refine ⟨_, gK_ok [(43, 6), (55, 2)] hS, loops_nil rfl, r7_6 hR hf h1 h2 hk (fun v hv => ⟨(upd f 6 v, i + 1), ?_, ⟨upd_all hf hv, h1⟩, rfl⟩)⟩
  show R.length - (i + 1) < R.length - i
  omega
theorem x7_7 {R sp : List (List D)} {Q : Exit → X → Prop} {f : Nat → Int} {i : Nat} (hS : SpecsOK Try.prog [(22, sGetC), (24, sPutC), (27, sI)]) (hR : okZ 1 R = true) (hf : ∀ n, val8 (f n) = true) (h1 : i < R.length) (h2 : i < 40) (hk : band (hdJ (R.getD i [])) 15 = 7) :
    ∃ H, CallsOK Try.prog H ∧ LoopsOK Try.prog H (bodyL Try.f7 0) ∧ roundW Try.prog H Try.f7 0 [(23000, 58000), (23001, 58001), (23002, 58002), (23003, 58003)] [0, 3, 5, 6] [4, 23000, 23001, 23002, 23003, 6] (v_st7 R sp) (v_st7 R sp) (fun y => ∃ p' : (Nat → Int) × Nat, R.length - p'.2 < R.length - i ∧ ((∀ n, val8 (p'.1 n) = true) ∧ p'.2 ≤ R.length) ∧ y = sf7 R sp p'.1 p'.2) Q (sf7 R sp f i) := by
  refine ⟨_, gK_ok [(43, 7), (55, 3)] hS, loops_nil rfl, r7_7 hR hf h1 h2 hk (fun v hv => ⟨(upd f 7 v, i + 1), ?_, ⟨upd_all hf hv, h1⟩, rfl⟩)⟩
  show R.length - (i + 1) < R.length - i
  omega
theorem x7_8 {R sp : List (List D)} {Q : Exit → X → Prop} {f : Nat → Int} {i : Nat} (hS : SpecsOK Try.prog [(22, sGetC), (24, sPutC), (27, sI)]) (hR : okZ 1 R = true) (hf : ∀ n, val8 (f n) = true) (h1 : i < R.length) (h2 : i < 40) (hk : band (hdJ (R.getD i [])) 15 = 8) :
    ∃ H, CallsOK Try.prog H ∧ LoopsOK Try.prog H (bodyL Try.f7 0) ∧ roundW Try.prog H Try.f7 0 [(23000, 58000), (23001, 58001), (23002, 58002), (23003, 58003)] [0, 3, 5, 6] [4, 23000, 23001, 23002, 23003, 6] (v_st7 R sp) (v_st7 R sp) (fun y => ∃ p' : (Nat → Int) × Nat, R.length - p'.2 < R.length - i ∧ ((∀ n, val8 (p'.1 n) = true) ∧ p'.2 ≤ R.length) ∧ y = sf7 R sp p'.1 p'.2) Q (sf7 R sp f i) := by
  refine ⟨_, gK_ok [(43, 8), (55, 0)] hS, loops_nil rfl, r7_8 hR hf h1 h2 hk (fun v hv => ⟨(upd f 8 v, i + 1), ?_, ⟨upd_all hf hv, h1⟩, rfl⟩)⟩
  show R.length - (i + 1) < R.length - i
  omega
theorem x7_9 {R sp : List (List D)} {Q : Exit → X → Prop} {f : Nat → Int} {i : Nat} (hS : SpecsOK Try.prog [(22, sGetC), (24, sPutC), (27, sI)]) (hR : okZ 1 R = true) (hf : ∀ n, val8 (f n) = true) (h1 : i < R.length) (h2 : i < 40) (hk : band (hdJ (R.getD i [])) 15 = 9) :
    ∃ H, CallsOK Try.prog H ∧ LoopsOK Try.prog H (bodyL Try.f7 0) ∧ roundW Try.prog H Try.f7 0 [(23000, 58000), (23001, 58001), (23002, 58002), (23003, 58003)] [0, 3, 5, 6] [4, 23000, 23001, 23002, 23003, 6] (v_st7 R sp) (v_st7 R sp) (fun y => ∃ p' : (Nat → Int) × Nat, R.length - p'.2 < R.length - i ∧ ((∀ n, val8 (p'.1 n) = true) ∧ p'.2 ≤ R.length) ∧ y = sf7 R sp p'.1 p'.2) Q (sf7 R sp f i) := by
  refine ⟨_, gK_ok [(43, 9), (55, 1)] hS, loops_nil rfl, r7_9 hR hf h1 h2 hk (fun v hv => ⟨(upd f 9 v, i + 1), ?_, ⟨upd_all hf hv, h1⟩, rfl⟩)⟩
  show R.length - (i + 1) < R.length - i
  omega
theorem x7_10 {R sp : List (List D)} {Q : Exit → X → Prop} {f : Nat → Int} {i : Nat} (hS : SpecsOK Try.prog [(22, sGetC), (24, sPutC), (27, sI)]) (hR : okZ 1 R = true) (hf : ∀ n, val8 (f n) = true) (h1 : i < R.length) (h2 : i < 40) (hk : band (hdJ (R.getD i [])) 15 = 10) :
    ∃ H, CallsOK Try.prog H ∧ LoopsOK Try.prog H (bodyL Try.f7 0) ∧ roundW Try.prog H Try.f7 0 [(23000, 58000), (23001, 58001), (23002, 58002), (23003, 58003)] [0, 3, 5, 6] [4, 23000, 23001, 23002, 23003, 6] (v_st7 R sp) (v_st7 R sp) (fun y => ∃ p' : (Nat → Int) × Nat, R.length - p'.2 < R.length - i ∧ ((∀ n, val8 (p'.1 n) = true) ∧ p'.2 ≤ R.length) ∧ y = sf7 R sp p'.1 p'.2) Q (sf7 R sp f i) := by
  refine ⟨_, gK_ok [(43, 10), (55, 2)] hS, loops_nil rfl, r7_10 hR hf h1 h2 hk (fun v hv => ⟨(upd f 10 v, i + 1), ?_, ⟨upd_all hf hv, h1⟩, rfl⟩)⟩
  show R.length - (i + 1) < R.length - i
  omega
theorem x7_11 {R sp : List (List D)} {Q : Exit → X → Prop} {f : Nat → Int} {i : Nat} (hS : SpecsOK Try.prog [(22, sGetC), (24, sPutC), (27, sI)]) (hR : okZ 1 R = true) (hf : ∀ n, val8 (f n) = true) (h1 : i < R.length) (h2 : i < 40) (hk : band (hdJ (R.getD i [])) 15 = 11) :
    ∃ H, CallsOK Try.prog H ∧ LoopsOK Try.prog H (bodyL Try.f7 0) ∧ roundW Try.prog H Try.f7 0 [(23000, 58000), (23001, 58001), (23002, 58002), (23003, 58003)] [0, 3, 5, 6] [4, 23000, 23001, 23002, 23003, 6] (v_st7 R sp) (v_st7 R sp) (fun y => ∃ p' : (Nat → Int) × Nat, R.length - p'.2 < R.length - i ∧ ((∀ n, val8 (p'.1 n) = true) ∧ p'.2 ≤ R.length) ∧ y = sf7 R sp p'.1 p'.2) Q (sf7 R sp f i) := by
  refine ⟨_, gK_ok [(43, 11), (55, 3)] hS, loops_nil rfl, r7_11 hR hf h1 h2 hk (fun v hv => ⟨(upd f 11 v, i + 1), ?_, ⟨upd_all hf hv, h1⟩, rfl⟩)⟩
  show R.length - (i + 1) < R.length - i
  omega
theorem x7_12 {R sp : List (List D)} {Q : Exit → X → Prop} {f : Nat → Int} {i : Nat} (hS : SpecsOK Try.prog [(22, sGetC), (24, sPutC), (27, sI)]) (hR : okZ 1 R = true) (hf : ∀ n, val8 (f n) = true) (h1 : i < R.length) (h2 : i < 40) (hk : band (hdJ (R.getD i [])) 15 = 12) :
    ∃ H, CallsOK Try.prog H ∧ LoopsOK Try.prog H (bodyL Try.f7 0) ∧ roundW Try.prog H Try.f7 0 [(23000, 58000), (23001, 58001), (23002, 58002), (23003, 58003)] [0, 3, 5, 6] [4, 23000, 23001, 23002, 23003, 6] (v_st7 R sp) (v_st7 R sp) (fun y => ∃ p' : (Nat → Int) × Nat, R.length - p'.2 < R.length - i ∧ ((∀ n, val8 (p'.1 n) = true) ∧ p'.2 ≤ R.length) ∧ y = sf7 R sp p'.1 p'.2) Q (sf7 R sp f i) := by
  refine ⟨_, gK_ok [(43, 12), (55, 0)] hS, loops_nil rfl, r7_12 hR hf h1 h2 hk (fun v hv => ⟨(upd f 12 v, i + 1), ?_, ⟨upd_all hf hv, h1⟩, rfl⟩)⟩
  show R.length - (i + 1) < R.length - i
  omega
theorem x7_13 {R sp : List (List D)} {Q : Exit → X → Prop} {f : Nat → Int} {i : Nat} (hS : SpecsOK Try.prog [(22, sGetC), (24, sPutC), (27, sI)]) (hR : okZ 1 R = true) (hf : ∀ n, val8 (f n) = true) (h1 : i < R.length) (h2 : i < 40) (hk : band (hdJ (R.getD i [])) 15 = 13) :
    ∃ H, CallsOK Try.prog H ∧ LoopsOK Try.prog H (bodyL Try.f7 0) ∧ roundW Try.prog H Try.f7 0 [(23000, 58000), (23001, 58001), (23002, 58002), (23003, 58003)] [0, 3, 5, 6] [4, 23000, 23001, 23002, 23003, 6] (v_st7 R sp) (v_st7 R sp) (fun y => ∃ p' : (Nat → Int) × Nat, R.length - p'.2 < R.length - i ∧ ((∀ n, val8 (p'.1 n) = true) ∧ p'.2 ≤ R.length) ∧ y = sf7 R sp p'.1 p'.2) Q (sf7 R sp f i) := by
  refine ⟨_, gK_ok [(43, 13), (55, 1)] hS, loops_nil rfl, r7_13 hR hf h1 h2 hk (fun v hv => ⟨(upd f 13 v, i + 1), ?_, ⟨upd_all hf hv, h1⟩, rfl⟩)⟩
  show R.length - (i + 1) < R.length - i
  omega
theorem x7_14 {R sp : List (List D)} {Q : Exit → X → Prop} {f : Nat → Int} {i : Nat} (hS : SpecsOK Try.prog [(22, sGetC), (24, sPutC), (27, sI)]) (hR : okZ 1 R = true) (hf : ∀ n, val8 (f n) = true) (h1 : i < R.length) (h2 : i < 40) (hk : band (hdJ (R.getD i [])) 15 = 14) :
    ∃ H, CallsOK Try.prog H ∧ LoopsOK Try.prog H (bodyL Try.f7 0) ∧ roundW Try.prog H Try.f7 0 [(23000, 58000), (23001, 58001), (23002, 58002), (23003, 58003)] [0, 3, 5, 6] [4, 23000, 23001, 23002, 23003, 6] (v_st7 R sp) (v_st7 R sp) (fun y => ∃ p' : (Nat → Int) × Nat, R.length - p'.2 < R.length - i ∧ ((∀ n, val8 (p'.1 n) = true) ∧ p'.2 ≤ R.length) ∧ y = sf7 R sp p'.1 p'.2) Q (sf7 R sp f i) := by
  refine ⟨_, gK_ok [(43, 14), (55, 2)] hS, loops_nil rfl, r7_14 hR hf h1 h2 hk (fun v hv => ⟨(upd f 14 v, i + 1), ?_, ⟨upd_all hf hv, h1⟩, rfl⟩)⟩
  show R.length - (i + 1) < R.length - i
  omega
theorem x7_15 {R sp : List (List D)} {Q : Exit → X → Prop} {f : Nat → Int} {i : Nat} (hS : SpecsOK Try.prog [(22, sGetC), (24, sPutC), (27, sI)]) (hR : okZ 1 R = true) (hf : ∀ n, val8 (f n) = true) (h1 : i < R.length) (h2 : i < 40) (hk : band (hdJ (R.getD i [])) 15 = 15) :
    ∃ H, CallsOK Try.prog H ∧ LoopsOK Try.prog H (bodyL Try.f7 0) ∧ roundW Try.prog H Try.f7 0 [(23000, 58000), (23001, 58001), (23002, 58002), (23003, 58003)] [0, 3, 5, 6] [4, 23000, 23001, 23002, 23003, 6] (v_st7 R sp) (v_st7 R sp) (fun y => ∃ p' : (Nat → Int) × Nat, R.length - p'.2 < R.length - i ∧ ((∀ n, val8 (p'.1 n) = true) ∧ p'.2 ≤ R.length) ∧ y = sf7 R sp p'.1 p'.2) Q (sf7 R sp f i) := by
  refine ⟨_, gK_ok [(43, 15), (55, 3)] hS, loops_nil rfl, r7_15 hR hf h1 h2 hk (fun v hv => ⟨(upd f 15 v, i + 1), ?_, ⟨upd_all hf hv, h1⟩, rfl⟩)⟩
  show R.length - (i + 1) < R.length - i
  omega
theorem ok7 {R sp : List (List D)} (hR : okZ 1 R = true) (Q : Exit → X → Prop) (x : X) (h : s7 R sp Q x) : XWP Try.prog (.loop (bodyL Try.f7 0)) Q x := by
  obtain ⟨h1, h2'⟩ := h
  have hS : SpecsOK Try.prog [(22, sGetC), (24, sPutC), (27, sI)] := .cons oGetC (.cons oPutC (.cons oNum .nil))
  refine xwp_roundX (ι := (Nat → Int) × Nat) (fn := Try.f7) (i := 0) [(23000, 58000), (23001, 58001), (23002, 58002), (23003, 58003)] (ts := [0, 3, 5, 6]) (ks := [4, 23000, 23001, 23002, 23003, 6]) mixed
    (fun p => sf7 R sp p.1 p.2) (fun p => (∀ n, val8 (p.1 n) = true) ∧ p.2 ≤ R.length) (fun p => R.length - p.2) (fun _ => 0, 0) (v_st7 R sp) (v_st7 R sp) (v_st7_ok R sp) (v_st7_ok R sp) (fun p hp => ?_) ⟨fun _ => rfl, Nat.zero_le _⟩ h1
  obtain ⟨f, i⟩ := p
  obtain ⟨hf, hi⟩ := hp
  dsimp only at hf hi ⊢
  by_cases h1 : i < R.length
  · by_cases h2 : i < 40
    · have hb := mask4 (hdJ (R.getD i []))
      have hk : band (hdJ (R.getD i [])) 15 = 0 ∨ band (hdJ (R.getD i [])) 15 = 1 ∨ band (hdJ (R.getD i [])) 15 = 2 ∨ band (hdJ (R.getD i [])) 15 = 3 ∨ band (hdJ (R.getD i [])) 15 = 4 ∨ band (hdJ (R.getD i [])) 15 = 5 ∨ band (hdJ (R.getD i [])) 15 = 6 ∨ band (hdJ (R.getD i [])) 15 = 7 ∨ band (hdJ (R.getD i [])) 15 = 8 ∨ band (hdJ (R.getD i [])) 15 = 9 ∨ band (hdJ (R.getD i [])) 15 = 10 ∨ band (hdJ (R.getD i [])) 15 = 11 ∨ band (hdJ (R.getD i [])) 15 = 12 ∨ band (hdJ (R.getD i [])) 15 = 13 ∨ band (hdJ (R.getD i [])) 15 = 14 ∨ band (hdJ (R.getD i [])) 15 = 15 := by omega
      rcases hk with hk | hk | hk | hk | hk | hk | hk | hk | hk | hk | hk | hk | hk | hk | hk | hk
      · exact x7_0 hS hR hf h1 h2 hk
      · exact x7_1 hS hR hf h1 h2 hk
      · exact x7_2 hS hR hf h1 h2 hk
      · exact x7_3 hS hR hf h1 h2 hk
      · exact x7_4 hS hR hf h1 h2 hk
      · exact x7_5 hS hR hf h1 h2 hk
      · exact x7_6 hS hR hf h1 h2 hk
      · exact x7_7 hS hR hf h1 h2 hk
      · exact x7_8 hS hR hf h1 h2 hk
      · exact x7_9 hS hR hf h1 h2 hk
      · exact x7_10 hS hR hf h1 h2 hk
      · exact x7_11 hS hR hf h1 h2 hk
      · exact x7_12 hS hR hf h1 h2 hk
      · exact x7_13 hS hR hf h1 h2 hk
      · exact x7_14 hS hR hf h1 h2 hk
      · exact x7_15 hS hR hf h1 h2 hk
    · refine ⟨_, gK_ok [(43, 0), (55, 0)] hS, loops_nil rfl, ?_⟩
      unfold sf7
      rw [e7r_0]
      have h3 : ¬ ((i : Int) < 40) := by omega
      simp only [Int.ofNat_lt, h1, h3, decide_true, decide_false, cond_true, cond_false, true_and]
      exact h2' f i hf
  · refine ⟨_, gK_ok [(43, 0), (55, 0)] hS, loops_nil rfl, ?_⟩
    unfold sf7
    rw [e7r_0]
    simp only [Int.ofNat_lt, h1, decide_false, cond_false, true_and]
    exact h2' f i hf
theorem g7_0 {f : Nat → Int} (hf : ∀ n, val8 (f n) = true) {g0 g1 g2 e : Int} (h : getR (cut (rw4 f 0) 0 4) (cut (rw4 f 4) 0 4) (cut (rw4 f 8) 0 4) (cut (rw4 f 12) 0 4) 0 0 g0 g1 g2 e) : f 0 = g0 ∧ 0 = g1 ∧ 0 = g2 ∧ 0 = e := by
  have hc : ∀ j, cut (rw4 f j) 0 4 = rw4 f j := fun j => rfl
  simp only [hc] at h
  obtain ⟨h1, h2⟩ := h
  have hg := gok4 hf 0 0 rfl
  unfold gA4 at h1
  rw [hg] at h1 h2
  injection h1 with a1 h1
  injection h1 with a2 h1
  injection h1 with a3 h1
  exact ⟨a1.symm, a2.symm, a3.symm, h2.symm⟩
theorem g7_1 {f : Nat → Int} (hf : ∀ n, val8 (f n) = true) {g0 g1 g2 e : Int} (h : getR (cut (rw4 f 0) 0 4) (cut (rw4 f 4) 0 4) (cut (rw4 f 8) 0 4) (cut (rw4 f 12) 0 4) 0 1 g0 g1 g2 e) : f 1 = g0 ∧ 0 = g1 ∧ 0 = g2 ∧ 0 = e := by
  have hc : ∀ j, cut (rw4 f j) 0 4 = rw4 f j := fun j => rfl
  simp only [hc] at h
  obtain ⟨h1, h2⟩ := h
  have hg := gok4 hf 0 1 rfl
  unfold gA4 at h1
  rw [hg] at h1 h2
  injection h1 with a1 h1
  injection h1 with a2 h1
  injection h1 with a3 h1
  exact ⟨a1.symm, a2.symm, a3.symm, h2.symm⟩
theorem g7_2 {f : Nat → Int} (hf : ∀ n, val8 (f n) = true) {g0 g1 g2 e : Int} (h : getR (cut (rw4 f 0) 0 4) (cut (rw4 f 4) 0 4) (cut (rw4 f 8) 0 4) (cut (rw4 f 12) 0 4) 0 2 g0 g1 g2 e) : f 2 = g0 ∧ 0 = g1 ∧ 0 = g2 ∧ 0 = e := by
  have hc : ∀ j, cut (rw4 f j) 0 4 = rw4 f j := fun j => rfl
  simp only [hc] at h
  obtain ⟨h1, h2⟩ := h
  have hg := gok4 hf 0 2 rfl
  unfold gA4 at h1
  rw [hg] at h1 h2
  injection h1 with a1 h1
  injection h1 with a2 h1
  injection h1 with a3 h1
  exact ⟨a1.symm, a2.symm, a3.symm, h2.symm⟩
theorem g7_3 {f : Nat → Int} (hf : ∀ n, val8 (f n) = true) {g0 g1 g2 e : Int} (h : getR (cut (rw4 f 0) 0 4) (cut (rw4 f 4) 0 4) (cut (rw4 f 8) 0 4) (cut (rw4 f 12) 0 4) 0 3 g0 g1 g2 e) : f 3 = g0 ∧ 0 = g1 ∧ 0 = g2 ∧ 0 = e := by
  have hc : ∀ j, cut (rw4 f j) 0 4 = rw4 f j := fun j => rfl
  simp only [hc] at h
  obtain ⟨h1, h2⟩ := h
  have hg := gok4 hf 0 3 rfl
  unfold gA4 at h1
  rw [hg] at h1 h2
  injection h1 with a1 h1
  injection h1 with a2 h1
  injection h1 with a3 h1
  exact ⟨a1.symm, a2.symm, a3.symm, h2.symm⟩
theorem g7_4 {f : Nat → Int} (hf : ∀ n, val8 (f n) = true) {g0 g1 g2 e : Int} (h : getR (cut (rw4 f 0) 0 4) (cut (rw4 f 4) 0 4) (cut (rw4 f 8) 0 4) (cut (rw4 f 12) 0 4) 1 0 g0 g1 g2 e) : f 4 = g0 ∧ 0 = g1 ∧ 0 = g2 ∧ 0 = e := by
  have hc : ∀ j, cut (rw4 f j) 0 4 = rw4 f j := fun j => rfl
  simp only [hc] at h
  obtain ⟨h1, h2⟩ := h
  have hg := gok4 hf 1 0 rfl
  unfold gA4 at h1
  rw [hg] at h1 h2
  injection h1 with a1 h1
  injection h1 with a2 h1
  injection h1 with a3 h1
  exact ⟨a1.symm, a2.symm, a3.symm, h2.symm⟩
theorem g7_5 {f : Nat → Int} (hf : ∀ n, val8 (f n) = true) {g0 g1 g2 e : Int} (h : getR (cut (rw4 f 0) 0 4) (cut (rw4 f 4) 0 4) (cut (rw4 f 8) 0 4) (cut (rw4 f 12) 0 4) 1 1 g0 g1 g2 e) : f 5 = g0 ∧ 0 = g1 ∧ 0 = g2 ∧ 0 = e := by
  have hc : ∀ j, cut (rw4 f j) 0 4 = rw4 f j := fun j => rfl
  simp only [hc] at h
  obtain ⟨h1, h2⟩ := h
  have hg := gok4 hf 1 1 rfl
  unfold gA4 at h1
  rw [hg] at h1 h2
  injection h1 with a1 h1
  injection h1 with a2 h1
  injection h1 with a3 h1
  exact ⟨a1.symm, a2.symm, a3.symm, h2.symm⟩
theorem g7_6 {f : Nat → Int} (hf : ∀ n, val8 (f n) = true) {g0 g1 g2 e : Int} (h : getR (cut (rw4 f 0) 0 4) (cut (rw4 f 4) 0 4) (cut (rw4 f 8) 0 4) (cut (rw4 f 12) 0 4) 1 2 g0 g1 g2 e) : f 6 = g0 ∧ 0 = g1 ∧ 0 = g2 ∧ 0 = e := by
  have hc : ∀ j, cut (rw4 f j) 0 4 = rw4 f j := fun j => rfl
  simp only [hc] at h
  obtain ⟨h1, h2⟩ := h
  have hg := gok4 hf 1 2 rfl
  unfold gA4 at h1
  rw [hg] at h1 h2
  injection h1 with a1 h1
  injection h1 with a2 h1
  injection h1 with a3 h1
  exact ⟨a1.symm, a2.symm, a3.symm, h2.symm⟩
theorem g7_7 {f : Nat → Int} (hf : ∀ n, val8 (f n) = true) {g0 g1 g2 e : Int} (h : getR (cut (rw4 f 0) 0 4) (cut (rw4 f 4) 0 4) (cut (rw4 f 8) 0 4) (cut (rw4 f 12) 0 4) 1 3 g0 g1 g2 e) : f 7 = g0 ∧ 0 = g1 ∧ 0 = g2 ∧ 0 = e := by
  have hc : ∀ j, cut (rw4 f j) 0 4 = rw4 f j := fun j => rfl
  simp only [hc] at h
  obtain ⟨h1, h2⟩ := h
  have hg := gok4 hf 1 3 rfl
  unfold gA4 at h1
  rw [hg] at h1 h2
  injection h1 with a1 h1
  injection h1 with a2 h1
  injection h1 with a3 h1
  exact ⟨a1.symm, a2.symm, a3.symm, h2.symm⟩
theorem g7_8 {f : Nat → Int} (hf : ∀ n, val8 (f n) = true) {g0 g1 g2 e : Int} (h : getR (cut (rw4 f 0) 0 4) (cut (rw4 f 4) 0 4) (cut (rw4 f 8) 0 4) (cut (rw4 f 12) 0 4) 2 0 g0 g1 g2 e) : f 8 = g0 ∧ 0 = g1 ∧ 0 = g2 ∧ 0 = e := by
  have hc : ∀ j, cut (rw4 f j) 0 4 = rw4 f j := fun j => rfl
  simp only [hc] at h
  obtain ⟨h1, h2⟩ := h
  have hg := gok4 hf 2 0 rfl
  unfold gA4 at h1
  rw [hg] at h1 h2
  injection h1 with a1 h1
  injection h1 with a2 h1
  injection h1 with a3 h1
  exact ⟨a1.symm, a2.symm, a3.symm, h2.symm⟩
theorem g7_9 {f : Nat → Int} (hf : ∀ n, val8 (f n) = true) {g0 g1 g2 e : Int} (h : getR (cut (rw4 f 0) 0 4) (cut (rw4 f 4) 0 4) (cut (rw4 f 8) 0 4) (cut (rw4 f 12) 0 4) 2 1 g0 g1 g2 e) : f 9 = g0 ∧ 0 = g1 ∧ 0 = g2 ∧ 0 = e := by
  have hc : ∀ j, cut (rw4 f j) 0 4 = rw4 f j := fun j => rfl
  simp only [hc] at h
  obtain ⟨h1, h2⟩ := h
  have hg := gok4 hf 2 1 rfl
  unfold gA4 at h1
  rw [hg] at h1 h2
  injection h1 with a1 h1
  injection h1 with a2 h1
  injection h1 with a3 h1
  exact ⟨a1.symm, a2.symm, a3.symm, h2.symm⟩
theorem g7_10 {f : Nat → Int} (hf : ∀ n, val8 (f n) = true) {g0 g1 g2 e : Int} (h : getR (cut (rw4 f 0) 0 4) (cut (rw4 f 4) 0 4) (cut (rw4 f 8) 0 4) (cut (rw4 f 12) 0 4) 2 2 g0 g1 g2 e) : f 10 = g0 ∧ 0 = g1 ∧ 0 = g2 ∧ 0 = e := by
  have hc : ∀ j, cut (rw4 f j) 0 4 = rw4 f j := fun j => rfl
  simp only [hc] at h
  obtain ⟨h1, h2⟩ := h
  have hg := gok4 hf 2 2 rfl
  unfold gA4 at h1
  rw [hg] at h1 h2
  injection h1 with a1 h1
  injection h1 with a2 h1
  injection h1 with a3 h1
  exact ⟨a1.symm, a2.symm, a3.symm, h2.symm⟩
theorem g7_11 {f : Nat → Int} (hf : ∀ n, val8 (f n) = true) {g0 g1 g2 e : Int} (h : getR (cut (rw4 f 0) 0 4) (cut (rw4 f 4) 0 4) (cut (rw4 f 8) 0 4) (cut (rw4 f 12) 0 4) 2 3 g0 g1 g2 e) : f 11 = g0 ∧ 0 = g1 ∧ 0 = g2 ∧ 0 = e := by
  have hc : ∀ j, cut (rw4 f j) 0 4 = rw4 f j := fun j => rfl
  simp only [hc] at h
  obtain ⟨h1, h2⟩ := h
  have hg := gok4 hf 2 3 rfl
  unfold gA4 at h1
  rw [hg] at h1 h2
  injection h1 with a1 h1
  injection h1 with a2 h1
  injection h1 with a3 h1
  exact ⟨a1.symm, a2.symm, a3.symm, h2.symm⟩
theorem g7_12 {f : Nat → Int} (hf : ∀ n, val8 (f n) = true) {g0 g1 g2 e : Int} (h : getR (cut (rw4 f 0) 0 4) (cut (rw4 f 4) 0 4) (cut (rw4 f 8) 0 4) (cut (rw4 f 12) 0 4) 3 0 g0 g1 g2 e) : f 12 = g0 ∧ 0 = g1 ∧ 0 = g2 ∧ 0 = e := by
  have hc : ∀ j, cut (rw4 f j) 0 4 = rw4 f j := fun j => rfl
  simp only [hc] at h
  obtain ⟨h1, h2⟩ := h
  have hg := gok4 hf 3 0 rfl
  unfold gA4 at h1
  rw [hg] at h1 h2
  injection h1 with a1 h1
  injection h1 with a2 h1
  injection h1 with a3 h1
  exact ⟨a1.symm, a2.symm, a3.symm, h2.symm⟩
theorem g7_13 {f : Nat → Int} (hf : ∀ n, val8 (f n) = true) {g0 g1 g2 e : Int} (h : getR (cut (rw4 f 0) 0 4) (cut (rw4 f 4) 0 4) (cut (rw4 f 8) 0 4) (cut (rw4 f 12) 0 4) 3 1 g0 g1 g2 e) : f 13 = g0 ∧ 0 = g1 ∧ 0 = g2 ∧ 0 = e := by
  have hc : ∀ j, cut (rw4 f j) 0 4 = rw4 f j := fun j => rfl
  simp only [hc] at h
  obtain ⟨h1, h2⟩ := h
  have hg := gok4 hf 3 1 rfl
  unfold gA4 at h1
  rw [hg] at h1 h2
  injection h1 with a1 h1
  injection h1 with a2 h1
  injection h1 with a3 h1
  exact ⟨a1.symm, a2.symm, a3.symm, h2.symm⟩
theorem g7_14 {f : Nat → Int} (hf : ∀ n, val8 (f n) = true) {g0 g1 g2 e : Int} (h : getR (cut (rw4 f 0) 0 4) (cut (rw4 f 4) 0 4) (cut (rw4 f 8) 0 4) (cut (rw4 f 12) 0 4) 3 2 g0 g1 g2 e) : f 14 = g0 ∧ 0 = g1 ∧ 0 = g2 ∧ 0 = e := by
  have hc : ∀ j, cut (rw4 f j) 0 4 = rw4 f j := fun j => rfl
  simp only [hc] at h
  obtain ⟨h1, h2⟩ := h
  have hg := gok4 hf 3 2 rfl
  unfold gA4 at h1
  rw [hg] at h1 h2
  injection h1 with a1 h1
  injection h1 with a2 h1
  injection h1 with a3 h1
  exact ⟨a1.symm, a2.symm, a3.symm, h2.symm⟩
theorem g7_15 {f : Nat → Int} (hf : ∀ n, val8 (f n) = true) {g0 g1 g2 e : Int} (h : getR (cut (rw4 f 0) 0 4) (cut (rw4 f 4) 0 4) (cut (rw4 f 8) 0 4) (cut (rw4 f 12) 0 4) 3 3 g0 g1 g2 e) : f 15 = g0 ∧ 0 = g1 ∧ 0 = g2 ∧ 0 = e := by
  have hc : ∀ j, cut (rw4 f j) 0 4 = rw4 f j := fun j => rfl
  simp only [hc] at h
  obtain ⟨h1, h2⟩ := h
  have hg := gok4 hf 3 3 rfl
  unfold gA4 at h1
  rw [hg] at h1 h2
  injection h1 with a1 h1
  injection h1 with a2 h1
  injection h1 with a3 h1
  exact ⟨a1.symm, a2.symm, a3.symm, h2.symm⟩
theorem e7 (R sp : List (List D)) (K : DV → Prop) : (askL Try.prog [(20, sNewB), (22, sGetC), (24, sPutC), (27, sI), (28, sAMay), (31, sT)] [(8, s7 R sp)] Try.f7 [dS 1 R sp] K) = (sf7 R sp (fun x => 0) (0) = sf7 R sp (fun x => 0) (0) ∧ ∀ (f : Nat → Int) (i : Int), (∀ (n : Nat), val8 (f n) = true) → ∀ (g0 g1 g2 e : Int), getR (cut (rw4 f (0)) (0) (4)) (cut (rw4 f (4)) (0) (4)) (cut (rw4 f (8)) (0) (4)) (cut (rw4 f (12)) (0) (4)) (0) (0) g0 g1 g2 e → bif e != 0 then K (DV.c (D.v (Value.bool false))) else bif !eqI [g0, g1, g2] [f (0), 0, 0] then K (DV.c (D.v (Value.bool false))) else ∀ (g0 g1 g2 e : Int), getR (cut (rw4 f (0)) (0) (4)) (cut (rw4 f (4)) (0) (4)) (cut (rw4 f (8)) (0) (4)) (cut (rw4 f (12)) (0) (4)) (0) (1) g0 g1 g2 e → bif e != 0 then K (DV.c (D.v (Value.bool false))) else bif !eqI [g0, g1, g2] [f (1), 0, 0] then K (DV.c (D.v (Value.bool false))) else ∀ (g0 g1 g2 e : Int), getR (cut (rw4 f (0)) (0) (4)) (cut (rw4 f (4)) (0) (4)) (cut (rw4 f (8)) (0) (4)) (cut (rw4 f (12)) (0) (4)) (0) (2) g0 g1 g2 e → bif e != 0 then K (DV.c (D.v (Value.bool false))) else bif !eqI [g0, g1, g2] [f (2), 0, 0] then K (DV.c (D.v (Value.bool false))) else ∀ (g0 g1 g2 e : Int), getR (cut (rw4 f (0)) (0) (4)) (cut (rw4 f (4)) (0) (4)) (cut (rw4 f (8)) (0) (4)) (cut (rw4 f (12)) (0) (4)) (0) (3) g0 g1 g2 e → bif e != 0 then K (DV.c (D.v (Value.bool false))) else bif !eqI [g0, g1, g2] [f (3), 0, 0] then K (DV.c (D.v (Value.bool false))) else ∀ (g0 g1 g2 e : Int), getR (cut (rw4 f (0)) (0) (4)) (cut (rw4 f (4)) (0) (4)) (cut (rw4 f (8)) (0) (4)) (cut (rw4 f (12)) (0) (4)) (1) (0) g0 g1 g2 e → bif e != 0 then K (DV.c (D.v (Value.bool false))) else bif !eqI [g0, g1, g2] [f (4), 0, 0] then K (DV.c (D.v (Value.bool false))) else ∀ (g0 g1 g2 e : Int), getR (cut (rw4 f (0)) (0) (4)) (cut (rw4 f (4)) (0) (4)) (cut (rw4 f (8)) (0) (4)) (cut (rw4 f (12)) (0) (4)) (1) (1) g0 g1 g2 e → bif e != 0 then K (DV.c (D.v (Value.bool false))) else bif !eqI [g0, g1, g2] [f (5), 0, 0] then K (DV.c (D.v (Value.bool false))) else ∀ (g0 g1 g2 e : Int), getR (cut (rw4 f (0)) (0) (4)) (cut (rw4 f (4)) (0) (4)) (cut (rw4 f (8)) (0) (4)) (cut (rw4 f (12)) (0) (4)) (1) (2) g0 g1 g2 e → bif e != 0 then K (DV.c (D.v (Value.bool false))) else bif !eqI [g0, g1, g2] [f (6), 0, 0] then K (DV.c (D.v (Value.bool false))) else ∀ (g0 g1 g2 e : Int), getR (cut (rw4 f (0)) (0) (4)) (cut (rw4 f (4)) (0) (4)) (cut (rw4 f (8)) (0) (4)) (cut (rw4 f (12)) (0) (4)) (1) (3) g0 g1 g2 e → bif e != 0 then K (DV.c (D.v (Value.bool false))) else bif !eqI [g0, g1, g2] [f (7), 0, 0] then K (DV.c (D.v (Value.bool false))) else ∀ (g0 g1 g2 e : Int), getR (cut (rw4 f (0)) (0) (4)) (cut (rw4 f (4)) (0) (4)) (cut (rw4 f (8)) (0) (4)) (cut (rw4 f (12)) (0) (4)) (2) (0) g0 g1 g2 e → bif e != 0 then K (DV.c (D.v (Value.bool false))) else bif !eqI [g0, g1, g2] [f (8), 0, 0] then K (DV.c (D.v (Value.bool false))) else ∀ (g0 g1 g2 e : Int), getR (cut (rw4 f (0)) (0) (4)) (cut (rw4 f (4)) (0) (4)) (cut (rw4 f (8)) (0) (4)) (cut (rw4 f (12)) (0) (4)) (2) (1) g0 g1 g2 e → bif e != 0 then K (DV.c (D.v (Value.bool false))) else bif !eqI [g0, g1, g2] [f (9), 0, 0] then K (DV.c (D.v (Value.bool false))) else ∀ (g0 g1 g2 e : Int), getR (cut (rw4 f (0)) (0) (4)) (cut (rw4 f (4)) (0) (4)) (cut (rw4 f (8)) (0) (4)) (cut (rw4 f (12)) (0) (4)) (2) (2) g0 g1 g2 e → bif e != 0 then K (DV.c (D.v (Value.bool false))) else bif !eqI [g0, g1, g2] [f (10), 0, 0] then K (DV.c (D.v (Value.bool false))) else ∀ (g0 g1 g2 e : Int), getR (cut (rw4 f (0)) (0) (4)) (cut (rw4 f (4)) (0) (4)) (cut (rw4 f (8)) (0) (4)) (cut (rw4 f (12)) (0) (4)) (2) (3) g0 g1 g2 e → bif e != 0 then K (DV.c (D.v (Value.bool false))) else bif !eqI [g0, g1, g2] [f (11), 0, 0] then K (DV.c (D.v (Value.bool false))) else ∀ (g0 g1 g2 e : Int), getR (cut (rw4 f (0)) (0) (4)) (cut (rw4 f (4)) (0) (4)) (cut (rw4 f (8)) (0) (4)) (cut (rw4 f (12)) (0) (4)) (3) (0) g0 g1 g2 e → bif e != 0 then K (DV.c (D.v (Value.bool false))) else bif !eqI [g0, g1, g2] [f (12), 0, 0] then K (DV.c (D.v (Value.bool false))) else ∀ (g0 g1 g2 e : Int), getR (cut (rw4 f (0)) (0) (4)) (cut (rw4 f (4)) (0) (4)) (cut (rw4 f (8)) (0) (4)) (cut (rw4 f (12)) (0) (4)) (3) (1) g0 g1 g2 e → bif e != 0 then K (DV.c (D.v (Value.bool false))) else bif !eqI [g0, g1, g2] [f (13), 0, 0] then K (DV.c (D.v (Value.bool false))) else ∀ (g0 g1 g2 e : Int), getR (cut (rw4 f (0)) (0) (4)) (cut (rw4 f (4)) (0) (4)) (cut (rw4 f (8)) (0) (4)) (cut (rw4 f (12)) (0) (4)) (3) (2) g0 g1 g2 e → bif e != 0 then K (DV.c (D.v (Value.bool false))) else bif !eqI [g0, g1, g2] [f (14), 0, 0] then K (DV.c (D.v (Value.bool false))) else ∀ (g0 g1 g2 e : Int), getR (cut (rw4 f (0)) (0) (4)) (cut (rw4 f (4)) (0) (4)) (cut (rw4 f (8)) (0) (4)) (cut (rw4 f (12)) (0) (4)) (3) (3) g0 g1 g2 e → bif e != 0 then K (DV.c (D.v (Value.bool false))) else bif !eqI [g0, g1, g2] [f (15), 0, 0] then K (DV.c (D.v (Value.bool false))) else K (DV.c (D.v (Value.bool (amay (toZ (cut (rw4 f (0)) (0) (4))) (toZ (cut (rw4 f (4)) (0) (4))) (toZ (cut (rw4 f (8)) (0) (4))) (toZ (cut (rw4 f (12)) (0) (4)))))))) := by kernel_rfl
theorem c7 {R : List (List D)} (sp : List (List D)) (hR : okZ 1 R = true) : CT Try.prog 7 [dS 1 R sp] (B true) := by
  refine ct_askL (l := [(20, sNewB), (22, sGetC), (24, sPutC), (27, sI), (28, sAMay), (31, sT)]) (m := [(8, s7 R sp)])
    (.cons oNewB (.cons oGetC (.cons oPutC (.cons oNum (.cons oAMay (.cons oAw .nil)))))) mixed (loops2a rfl (by kernel_rfl) (by kernel_rfl) (ok7 hR)) Try.func7 rfl rfl rfl ?_
  rw [e7]
  refine ⟨rfl, fun f i hf => ?_⟩
  have q : ((0 : Int) != 0) = false := rfl
  intro g0 g1 g2 e hg
  obtain ⟨rfl, rfl, rfl, rfl⟩ := g7_0 hf hg
  rw [q, cond_false, eqI_self, Bool.not_true, cond_false]
  intro g0 g1 g2 e hg
  obtain ⟨rfl, rfl, rfl, rfl⟩ := g7_1 hf hg
  rw [q, cond_false, eqI_self, Bool.not_true, cond_false]
  intro g0 g1 g2 e hg
  obtain ⟨rfl, rfl, rfl, rfl⟩ := g7_2 hf hg
  rw [q, cond_false, eqI_self, Bool.not_true, cond_false]
  intro g0 g1 g2 e hg
  obtain ⟨rfl, rfl, rfl, rfl⟩ := g7_3 hf hg
  rw [q, cond_false, eqI_self, Bool.not_true, cond_false]
  intro g0 g1 g2 e hg
  obtain ⟨rfl, rfl, rfl, rfl⟩ := g7_4 hf hg
  rw [q, cond_false, eqI_self, Bool.not_true, cond_false]
  intro g0 g1 g2 e hg
  obtain ⟨rfl, rfl, rfl, rfl⟩ := g7_5 hf hg
  rw [q, cond_false, eqI_self, Bool.not_true, cond_false]
  intro g0 g1 g2 e hg
  obtain ⟨rfl, rfl, rfl, rfl⟩ := g7_6 hf hg
  rw [q, cond_false, eqI_self, Bool.not_true, cond_false]
  intro g0 g1 g2 e hg
  obtain ⟨rfl, rfl, rfl, rfl⟩ := g7_7 hf hg
  rw [q, cond_false, eqI_self, Bool.not_true, cond_false]
  intro g0 g1 g2 e hg
  obtain ⟨rfl, rfl, rfl, rfl⟩ := g7_8 hf hg
  rw [q, cond_false, eqI_self, Bool.not_true, cond_false]
  intro g0 g1 g2 e hg
  obtain ⟨rfl, rfl, rfl, rfl⟩ := g7_9 hf hg
  rw [q, cond_false, eqI_self, Bool.not_true, cond_false]
  intro g0 g1 g2 e hg
  obtain ⟨rfl, rfl, rfl, rfl⟩ := g7_10 hf hg
  rw [q, cond_false, eqI_self, Bool.not_true, cond_false]
  intro g0 g1 g2 e hg
  obtain ⟨rfl, rfl, rfl, rfl⟩ := g7_11 hf hg
  rw [q, cond_false, eqI_self, Bool.not_true, cond_false]
  intro g0 g1 g2 e hg
  obtain ⟨rfl, rfl, rfl, rfl⟩ := g7_12 hf hg
  rw [q, cond_false, eqI_self, Bool.not_true, cond_false]
  intro g0 g1 g2 e hg
  obtain ⟨rfl, rfl, rfl, rfl⟩ := g7_13 hf hg
  rw [q, cond_false, eqI_self, Bool.not_true, cond_false]
  intro g0 g1 g2 e hg
  obtain ⟨rfl, rfl, rfl, rfl⟩ := g7_14 hf hg
  rw [q, cond_false, eqI_self, Bool.not_true, cond_false]
  intro g0 g1 g2 e hg
  obtain ⟨rfl, rfl, rfl, rfl⟩ := g7_15 hf hg
  rw [q, cond_false, eqI_self, Bool.not_true, cond_false]
  have hc : ∀ j, cut (rw4 f j) 0 4 = rw4 f j := fun j => rfl
  simp only [hc, amay4 hf]
end Vm