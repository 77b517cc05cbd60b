/- What the functions of this text do, told by an interpreter that is proved right (YtpgkfdehflimcaaVA to VD). My own work. -/
import Derived.Test.YtpgkfdehflimcaaVRg
namespace Vm
open Go Go.Proofs
set_option linter.unusedSimpArgs false
set_option linter.unusedVariables false
theorem fl256 : ∀ n : Fin 256, (rOK (rI2F (n.val : Int)) && decide (rF2I (rI2F (n.val : Int)) = (n.val : Int))) = true := by decide +kernel
theorem val8_le {x : Int} (h : val8 x = true) : 0 ≤ x ∧ x ≤ 255 := by unfold val8 upto at h; simp at h; exact h
theorem val8_of {x : Int} (h : 0 ≤ x ∧ x ≤ 255) : val8 x = true := by unfold val8 upto; simp; exact h
theorem flt {x : Int} (h : val8 x = true) : rOK (rI2F x) = true ∧ rF2I (rI2F x) = x := by
  have hb := val8_le h
  have := fl256 ⟨x.toNat, by omega⟩
  have e : ((x.toNat : Nat) : Int) = x := by omega
  simp only [e, Bool.and_eq_true, decide_eq_true_eq] at this
  exact this
theorem tm256 {x y : Int} (hx : val8 x = true) (hy : val8 y = true) : Int.tmod (IntKind.wrap .i64 (x + y)) 256 = (x + y) % 256 := by
  have h1 := val8_le hx
  have h2 := val8_le hy
  rw [wrap_id (by omega) (by omega), Int.tmod_eq_emod_of_nonneg (by omega)]
theorem v4_of {a b c d : Int} (h : v4 a b c d = true) : val8 a = true ∧ val8 b = true ∧ val8 c = true ∧ val8 d = true := by
  unfold v4 at h; simpa [Bool.and_eq_true] using h
theorem mod8 (x y : Int) : val8 ((x + y) % 256) = true := val8_of (by omega)
theorem c27 (a b c d i j : Int) : CT Try.prog 27 [.agg [vi a, vi b, vi c, vi d], I i, I j] (addR a b c d i j).dv := by
  refine ct_ask (.cons o51 (.cons o52 (.cons o25 .nil))) mixed Try.func27 rfl rfl rfl ?_
  show askF rI2F rF2I rOK Try.prog _ Try.f27 _ _
  rw [e27]
  cases hv : v4 a b c d with
  | false => simp [addR, hv]
  | true =>
    obtain ⟨ha, hb, hc, hd⟩ := v4_of hv
    cases hi : lab i with
    | false => simp [addR, hv, hi]
    | true =>
      cases hj : lab j with
      | false => simp [addR, hv, hi, hj]
      | true =>
        have fa := flt ha
        have fb := flt hb
        have fc := flt hc
        have fd := flt hd
        rcases lab_cases hi with rfl | rfl | rfl | rfl <;> rcases lab_cases hj with rfl | rfl | rfl | rfl <;>
          simp [addN, mulN, isK, hdI, fa, fb, fc, fd, tm256, ha, hb, hc, hd, setR, addR, putR, getR, hv, lab0, lab1, lab2, lab3, mod8]
theorem c28 (a b c d i j : Int) : CT Try.prog 28 [.agg [vi a, vi b, vi c, vi d], I i, I j] (addR a b c d i j).dv := by
  refine ct_ask (.cons o54 (.cons o55 .nil)) mixed Try.func28 rfl rfl rfl ?_
  rw [e28]
  cases hv : v4 a b c d with
  | false => simp [addR, hv]
  | true =>
    obtain ⟨ha, hb, hc, hd⟩ := v4_of hv
    cases hi : lab i with
    | false => simp [addR, hv, hi]
    | true =>
      cases hj : lab j with
      | false => simp [addR, hv, hi, hj]
      | true =>
        rcases lab_cases hi with rfl | rfl | rfl | rfl <;> rcases lab_cases hj with rfl | rfl | rfl | rfl <;>
          simp [addN, mulN, isK, hdI, splice, tm256, ha, hb, hc, hd, addR, putR, getR, hv, lab0, lab1, lab2, lab3]
def sAdd : Spec := fun ds Q => match ds with | [.agg [.v (.int .i64 a), .v (.int .i64 b), .v (.int .i64 c), .v (.int .i64 d)], .c (.v (.int .i64 l)), .c (.v (.int .i64 m))] => Q (addR a b c d l m).dv | _ => False
theorem oAdd {f : FuncId} {fn : Func} (hf : Try.prog.funcs[f]? = some fn) (hn : (fn.name == "runtime.NumGoroutine") = false) (hb : fn.body.isNone = false) (hc : ∀ a b c d l m, CT Try.prog f [.agg [vi a, vi b, vi c, vi d], I l, I m] (addR a b c d l m).dv) : SpecOK Try.prog f sAdd := fun ds Q h => by
  unfold sAdd at h; split at h
  · exact ⟨goes_of hf hn hb, _, hc _ _ _ _ _ _, rfl, rfl, h⟩
  · exact h.elim
theorem o27 : SpecOK Try.prog 27 sAdd := oAdd Try.func27 (by kernel_rfl) rfl c27
theorem o28 : SpecOK Try.prog 28 sAdd := oAdd Try.func28 (by kernel_rfl) rfl c28
theorem c29 : CT Try.prog 29 [] (B true) := ct_ask (.cons o25 (.cons o27 (.cons o23 .nil))) mixed Try.func29 rfl rfl rfl (by
  have e : ask Try.prog [(25, sSet), (27, sAdd), (23, sI)] Try.f29 [] (fun r => r = B true) = (B true = B true) := by kernel_rfl
  rw [e])
theorem o29 : SpecOK Try.prog 29 sT := oT Try.func29 (by kernel_rfl) rfl c29
theorem e7 (a b c d i j : Int) (K : DV → Prop) : (ask Try.prog [(25, sSet), (26, sSet), (27, sAdd), (28, sAdd), (23, sI), (29, sT)] Try.f7 [.agg [vi a, vi b, vi c, vi d], I i, I j] K) = (bif eqI [(setR a b c d i j).a, (setR a b c d i j).b, (setR a b c d i j).c, (setR a b c d i j).d] [(setR a b c d i j).a, (setR a b c d i j).b, (setR a b c d i j).c, (setR a b c d i j).d] then bif (setR a b c d i j).e == (setR a b c d i j).e then bif eqI [(addR a b c d i j).a, (addR a b c d i j).b, (addR a b c d i j).c, (addR a b c d i j).d] [(addR a b c d i j).a, (addR a b c d i j).b, (addR a b c d i j).c, (addR a b c d i j).d] then bif (addR a b c d i j).e == (addR a b c d i j).e then K (DV.c (D.v (Value.bool true))) else K (DV.c (D.v (Value.bool false))) else K (DV.c (D.v (Value.bool false))) else K (DV.c (D.v (Value.bool false))) else K (DV.c (D.v (Value.bool false)))) := by kernel_rfl
theorem c7 (a b c d i j : Int) : CT Try.prog 7 [.agg [vi a, vi b, vi c, vi d], I i, I j] (B true) := ct_ask (.cons o25 (.cons o26 (.cons o27 (.cons o28 (.cons o23 (.cons o29 .nil)))))) mixed Try.func7 rfl rfl rfl (by
  rw [e7]; simp [eqI_self])
theorem e8 (an : Int → Int → Int) (which x : Int) (K : DV → Prop) : (askA an bor Try.prog [(25, sSet), (27, sAdd), (23, sI), (29, sT)] [] Try.f8 [I which, I x] K) = (bif decide (0 ≤ an (Int.fdiv which (4)) (1)) && decide (an (Int.fdiv which (4)) (1) < 2) then bif decide (addN (0) (Int.toNat (an (Int.fdiv which (4)) (1))) < 2) then bif isJ [IntKind.i64] (List.drop (0) (List.getD [[D.v (Value.int IntKind.i64 (IntKind.wrap IntKind.i64 (0 - IntKind.wrap IntKind.i64 (1 + an x (1023)))))], [D.v (Value.int IntKind.i64 (IntKind.wrap IntKind.i64 (255 + IntKind.wrap IntKind.i64 (1 + an x (1023)))))]] (addN (0) (Int.toNat (an (Int.fdiv which (4)) (1)))) [])) then bif decide (0 ≤ an which (3)) && decide (an which (3) < 4) then bif decide (addN (0) (mulN (Int.toNat (an which (3))) (1)) + 1 ≤ 4) then bif isK [IntKind.i64, IntKind.i64, IntKind.i64, IntKind.i64] (splice [C.d (D.v (Value.int IntKind.i64 (1))), C.d (D.v (Value.int IntKind.i64 (2))), C.d (D.v (Value.int IntKind.i64 (3))), C.d (D.v (Value.int IntKind.i64 (4)))] (addN (0) (mulN (Int.toNat (an which (3))) (1))) [C.d (D.v (Value.int IntKind.i64 (hdJ (List.drop (0) (List.getD [[D.v (Value.int IntKind.i64 (IntKind.wrap IntKind.i64 (0 - IntKind.wrap IntKind.i64 (1 + an x (1023)))))], [D.v (Value.int IntKind.i64 (IntKind.wrap IntKind.i64 (255 + IntKind.wrap IntKind.i64 (1 + an x (1023)))))]] (addN (0) (Int.toNat (an (Int.fdiv which (4)) (1)))) [])))))]) then bif decide (0 ≤ an (Int.fdiv which (4)) (1)) && decide (an (Int.fdiv which (4)) (1) < 2) then bif decide (addN (0) (Int.toNat (an (Int.fdiv which (4)) (1))) < 2) then bif isJ [IntKind.i64] (List.drop (0) (List.getD [[D.v (Value.int IntKind.i64 (IntKind.wrap IntKind.i64 (0 - IntKind.wrap IntKind.i64 (1 + an x (1023)))))], [D.v (Value.int IntKind.i64 (IntKind.wrap IntKind.i64 (3 + IntKind.wrap IntKind.i64 (1 + an x (1023)))))]] (addN (0) (Int.toNat (an (Int.fdiv which (4)) (1)))) [])) then bif decide (0 ≤ an (Int.fdiv which (4)) (1)) && decide (an (Int.fdiv which (4)) (1) < 2) then bif decide (addN (0) (Int.toNat (an (Int.fdiv which (4)) (1))) < 2) then bif isJ [IntKind.i64] (List.drop (0) (List.getD [[D.v (Value.int IntKind.i64 (IntKind.wrap IntKind.i64 (0 - IntKind.wrap IntKind.i64 (1 + an x (1023)))))], [D.v (Value.int IntKind.i64 (IntKind.wrap IntKind.i64 (255 + IntKind.wrap IntKind.i64 (1 + an x (1023)))))]] (addN (0) (Int.toNat (an (Int.fdiv which (4)) (1)))) [])) then bif (setR (hdI (splice [C.d (D.v (Value.int IntKind.i64 (1))), C.d (D.v (Value.int IntKind.i64 (2))), C.d (D.v (Value.int IntKind.i64 (3))), C.d (D.v (Value.int IntKind.i64 (4)))] (addN (0) (mulN (Int.toNat (an which (3))) (1))) [C.d (D.v (Value.int IntKind.i64 (hdJ (List.drop (0) (List.getD [[D.v (Value.int IntKind.i64 (IntKind.wrap IntKind.i64 (0 - IntKind.wrap IntKind.i64 (1 + an x (1023)))))], [D.v (Value.int IntKind.i64 (IntKind.wrap IntKind.i64 (255 + IntKind.wrap IntKind.i64 (1 + an x (1023)))))]] (addN (0) (Int.toNat (an (Int.fdiv which (4)) (1)))) [])))))])) (hdI (List.tail (splice [C.d (D.v (Value.int IntKind.i64 (1))), C.d (D.v (Value.int IntKind.i64 (2))), C.d (D.v (Value.int IntKind.i64 (3))), C.d (D.v (Value.int IntKind.i64 (4)))] (addN (0) (mulN (Int.toNat (an which (3))) (1))) [C.d (D.v (Value.int IntKind.i64 (hdJ (List.drop (0) (List.getD [[D.v (Value.int IntKind.i64 (IntKind.wrap IntKind.i64 (0 - IntKind.wrap IntKind.i64 (1 + an x (1023)))))], [D.v (Value.int IntKind.i64 (IntKind.wrap IntKind.i64 (255 + IntKind.wrap IntKind.i64 (1 + an x (1023)))))]] (addN (0) (Int.toNat (an (Int.fdiv which (4)) (1)))) [])))))]))) (hdI (List.tail (List.tail (splice [C.d (D.v (Value.int IntKind.i64 (1))), C.d (D.v (Value.int IntKind.i64 (2))), C.d (D.v (Value.int IntKind.i64 (3))), C.d (D.v (Value.int IntKind.i64 (4)))] (addN (0) (mulN (Int.toNat (an which (3))) (1))) [C.d (D.v (Value.int IntKind.i64 (hdJ (List.drop (0) (List.getD [[D.v (Value.int IntKind.i64 (IntKind.wrap IntKind.i64 (0 - IntKind.wrap IntKind.i64 (1 + an x (1023)))))], [D.v (Value.int IntKind.i64 (IntKind.wrap IntKind.i64 (255 + IntKind.wrap IntKind.i64 (1 + an x (1023)))))]] (addN (0) (Int.toNat (an (Int.fdiv which (4)) (1)))) [])))))])))) (hdI (List.tail (List.tail (List.tail (splice [C.d (D.v (Value.int IntKind.i64 (1))), C.d (D.v (Value.int IntKind.i64 (2))), C.d (D.v (Value.int IntKind.i64 (3))), C.d (D.v (Value.int IntKind.i64 (4)))] (addN (0) (mulN (Int.toNat (an which (3))) (1))) [C.d (D.v (Value.int IntKind.i64 (hdJ (List.drop (0) (List.getD [[D.v (Value.int IntKind.i64 (IntKind.wrap IntKind.i64 (0 - IntKind.wrap IntKind.i64 (1 + an x (1023)))))], [D.v (Value.int IntKind.i64 (IntKind.wrap IntKind.i64 (255 + IntKind.wrap IntKind.i64 (1 + an x (1023)))))]] (addN (0) (Int.toNat (an (Int.fdiv which (4)) (1)))) [])))))]))))) (0) (0)).e == 600 then bif (addR (hdI (splice [C.d (D.v (Value.int IntKind.i64 (1))), C.d (D.v (Value.int IntKind.i64 (2))), C.d (D.v (Value.int IntKind.i64 (3))), C.d (D.v (Value.int IntKind.i64 (4)))] (addN (0) (mulN (Int.toNat (an which (3))) (1))) [C.d (D.v (Value.int IntKind.i64 (hdJ (List.drop (0) (List.getD [[D.v (Value.int IntKind.i64 (IntKind.wrap IntKind.i64 (0 - IntKind.wrap IntKind.i64 (1 + an x (1023)))))], [D.v (Value.int IntKind.i64 (IntKind.wrap IntKind.i64 (255 + IntKind.wrap IntKind.i64 (1 + an x (1023)))))]] (addN (0) (Int.toNat (an (Int.fdiv which (4)) (1)))) [])))))])) (hdI (List.tail (splice [C.d (D.v (Value.int IntKind.i64 (1))), C.d (D.v (Value.int IntKind.i64 (2))), C.d (D.v (Value.int IntKind.i64 (3))), C.d (D.v (Value.int IntKind.i64 (4)))] (addN (0) (mulN (Int.toNat (an which (3))) (1))) [C.d (D.v (Value.int IntKind.i64 (hdJ (List.drop (0) (List.getD [[D.v (Value.int IntKind.i64 (IntKind.wrap IntKind.i64 (0 - IntKind.wrap IntKind.i64 (1 + an x (1023)))))], [D.v (Value.int IntKind.i64 (IntKind.wrap IntKind.i64 (255 + IntKind.wrap IntKind.i64 (1 + an x (1023)))))]] (addN (0) (Int.toNat (an (Int.fdiv which (4)) (1)))) [])))))]))) (hdI (List.tail (List.tail (splice [C.d (D.v (Value.int IntKind.i64 (1))), C.d (D.v (Value.int IntKind.i64 (2))), C.d (D.v (Value.int IntKind.i64 (3))), C.d (D.v (Value.int IntKind.i64 (4)))] (addN (0) (mulN (Int.toNat (an which (3))) (1))) [C.d (D.v (Value.int IntKind.i64 (hdJ (List.drop (0) (List.getD [[D.v (Value.int IntKind.i64 (IntKind.wrap IntKind.i64 (0 - IntKind.wrap IntKind.i64 (1 + an x (1023)))))], [D.v (Value.int IntKind.i64 (IntKind.wrap IntKind.i64 (255 + IntKind.wrap IntKind.i64 (1 + an x (1023)))))]] (addN (0) (Int.toNat (an (Int.fdiv which (4)) (1)))) [])))))])))) (hdI (List.tail (List.tail (List.tail (splice [C.d (D.v (Value.int IntKind.i64 (1))), C.d (D.v (Value.int IntKind.i64 (2))), C.d (D.v (Value.int IntKind.i64 (3))), C.d (D.v (Value.int IntKind.i64 (4)))] (addN (0) (mulN (Int.toNat (an which (3))) (1))) [C.d (D.v (Value.int IntKind.i64 (hdJ (List.drop (0) (List.getD [[D.v (Value.int IntKind.i64 (IntKind.wrap IntKind.i64 (0 - IntKind.wrap IntKind.i64 (1 + an x (1023)))))], [D.v (Value.int IntKind.i64 (IntKind.wrap IntKind.i64 (255 + IntKind.wrap IntKind.i64 (1 + an x (1023)))))]] (addN (0) (Int.toNat (an (Int.fdiv which (4)) (1)))) [])))))]))))) (0) (0)).e == 600 then bif (setR (1) (2) (3) (4) (hdJ (List.drop (0) (List.getD [[D.v (Value.int IntKind.i64 (IntKind.wrap IntKind.i64 (0 - IntKind.wrap IntKind.i64 (1 + an x (1023)))))], [D.v (Value.int IntKind.i64 (IntKind.wrap IntKind.i64 (3 + IntKind.wrap IntKind.i64 (1 + an x (1023)))))]] (addN (0) (Int.toNat (an (Int.fdiv which (4)) (1)))) []))) (0)).e == 600 then bif (setR (1) (2) (3) (4) (0) (hdJ (List.drop (0) (List.getD [[D.v (Value.int IntKind.i64 (IntKind.wrap IntKind.i64 (0 - IntKind.wrap IntKind.i64 (1 + an x (1023)))))], [D.v (Value.int IntKind.i64 (IntKind.wrap IntKind.i64 (255 + IntKind.wrap IntKind.i64 (1 + an x (1023)))))]] (addN (0) (Int.toNat (an (Int.fdiv which (4)) (1)))) [])))).e == 600 then bif (addR (1) (2) (3) (4) (hdJ (List.drop (0) (List.getD [[D.v (Value.int IntKind.i64 (IntKind.wrap IntKind.i64 (0 - IntKind.wrap IntKind.i64 (1 + an x (1023)))))], [D.v (Value.int IntKind.i64 (IntKind.wrap IntKind.i64 (3 + IntKind.wrap IntKind.i64 (1 + an x (1023)))))]] (addN (0) (Int.toNat (an (Int.fdiv which (4)) (1)))) []))) (0)).e == 600 then K (DV.c (D.v (Value.bool ((addR (1) (2) (3) (4) (0) (hdJ (List.drop (0) (List.getD [[D.v (Value.int IntKind.i64 (IntKind.wrap IntKind.i64 (0 - IntKind.wrap IntKind.i64 (1 + an x (1023)))))], [D.v (Value.int IntKind.i64 (IntKind.wrap IntKind.i64 (3 + IntKind.wrap IntKind.i64 (1 + an x (1023)))))]] (addN (0) (Int.toNat (an (Int.fdiv which (4)) (1)))) [])))).e == 600)))) else K (DV.c (D.v (Value.bool false))) else K (DV.c (D.v (Value.bool false))) else K (DV.c (D.v (Value.bool false))) else K (DV.c (D.v (Value.bool false))) else K (DV.c (D.v (Value.bool false))) else False else False else False else False else False else False else False else False else False else False else False else False) := by kernel_rfl
end Vm
