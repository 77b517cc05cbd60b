/- What the functions of this text do, told by an interpreter that is proved right (YtdfehiebnempaaaGA to GD). My own work. -/
import Derived.Test.YtdfehiebnempaaaGWsF
import Derived.Test.YtdfehiebnempaaaGD
namespace Vm
open Go Go.Proofs
set_option linter.unusedSimpArgs false
set_option linter.unusedVariables false
set_option maxRecDepth 100000
/-! ### the laws of writeset -/
theorem eAwW (K : DV → Prop) : (ask Try.prog [(46, sWth), (48, sFnd), (51, sAtW), (53, sWMy), (50, sSameWrites), (27, sI)] Try.f57 [] K) = (K (DV.c (D.v (Value.bool true)))) := by kernel_rfl
def gX (l : List (FuncId × Spec)) : Hooks := { hkA band bor l [] with give := fun f => Nat.beq f 55 }
def askX (l : List (FuncId × Spec)) (fn : Func) (args : List DV) (K : DV → Prop) : Prop := evp Try.prog (gX l) 200 (bodyOf fn) (finX Try.prog fn K) (entryX fn.ntmps args)
def sT : Spec := fun ds Q => match ds with | [] => Q (B true) | _ => False
theorem e14 (R sp : List (List D)) (a b c lv ix : Int) (K : DV → Prop) : (askX [(46, sWth), (47, sWth), (48, sFnd), (49, sRFd), (51, sAtW), (52, sAtW), (53, sWMy), (54, sWMy), (45, sLendWrites), (50, sSameWrites), (55, sSpoilWrites), (56, sKeptWrites), (27, sI), (57, sT)] Try.f14 [dS 3 R sp, .agg [vI a, vI b, vI c], I lv, I ix] K) = (bif allV R && decide (List.length R ≤ 5864062014635) then bif decide (0 + List.length R ≤ List.length (R ++ markWrites)) then bif okZ (3) (cut (R ++ markWrites) (0) (List.length R)) then bif okZ (3) R then bif decide (0 + List.length R ≤ List.length (R ++ markWrites)) then bif okZ (3) (cut (R ++ markWrites) (0) (List.length R)) && (decide (List.length (cut (R ++ markWrites) (0) (List.length R)) ≤ 4611686018427387903) && (in64 lv && in64 ix)) then bif okZ (3) R then bif decide (0 + List.length (mZ (withW (toZ (cut (R ++ markWrites) (0) (List.length R))) [a, b, c])) ≤ List.length (mZ (withW (toZ (cut (R ++ markWrites) (0) (List.length R))) [a, b, c]) ++ [])) then bif decide (0 + List.length (mZ (withW (toZ R) [a, b, c])) ≤ List.length (mZ (withW (toZ R) [a, b, c]) ++ [])) then bif okZ (3) (cut (mZ (withW (toZ (cut (R ++ markWrites) (0) (List.length R))) [a, b, c]) ++ []) (0) (List.length (mZ (withW (toZ (cut (R ++ markWrites) (0) (List.length R))) [a, b, c])))) && okZ (3) (cut (mZ (withW (toZ R) [a, b, c]) ++ []) (0) (List.length (mZ (withW (toZ R) [a, b, c])))) then bif !decide (toZ (cut (mZ (withW (toZ (cut (R ++ markWrites) (0) (List.length R))) [a, b, c]) ++ []) (0) (List.length (mZ (withW (toZ (cut (R ++ markWrites) (0) (List.length R))) [a, b, c])))) = toZ (cut (mZ (withW (toZ R) [a, b, c]) ++ []) (0) (List.length (mZ (withW (toZ R) [a, b, c]))))) then K (DV.c (D.v (Value.bool false))) else bif withE (toZ (cut (R ++ markWrites) (0) (List.length R))) [a, b, c] != withE (toZ R) [a, b, c] then K (DV.c (D.v (Value.bool false))) else bif fdV (toZ (cut (R ++ markWrites) (0) (List.length R))) lv ix != fdV (toZ R) lv ix then K (DV.c (D.v (Value.bool false))) else bif !fdB (toZ (cut (R ++ markWrites) (0) (List.length R))) lv ix == fdB (toZ R) lv ix then K (DV.c (D.v (Value.bool false))) else bif decide (0 + List.length R ≤ List.length (R ++ markWrites)) then bif okZ (3) (cut (R ++ markWrites) (0) (List.length R)) then bif okZ (3) R then bif !atW (toZ (cut (R ++ markWrites) (0) (List.length R))) lv == atW (toZ R) lv then K (DV.c (D.v (Value.bool false))) else bif decide (0 + List.length R ≤ List.length (R ++ markWrites)) then bif okZ (3) (cut (R ++ markWrites) (0) (List.length R)) then bif okZ (3) R then bif !wmay (toZ (cut (R ++ markWrites) (0) (List.length R))) == wmay (toZ R) then K (DV.c (D.v (Value.bool false))) else bif decide (List.length (mZ (withW (toZ (cut (R ++ markWrites) (0) (List.length R))) [a, b, c])) ≤ List.length (mZ (withW (toZ (cut (R ++ markWrites) (0) (List.length R))) [a, b, c]) ++ [])) && List.all (mZ (withW (toZ (cut (R ++ markWrites) (0) (List.length R))) [a, b, c]) ++ []) fun r => List.all r D.keeps then bif allV (mZ (withW (toZ (cut (R ++ markWrites) (0) (List.length R))) [a, b, c]) ++ []) then bif okZ (3) (List.take (List.length (mZ (withW (toZ (cut (R ++ markWrites) (0) (List.length R))) [a, b, c]))) (mZ (withW (toZ (cut (R ++ markWrites) (0) (List.length R))) [a, b, c]) ++ []) ++ List.take (List.length (mZ (withW (toZ (cut (R ++ markWrites) (0) (List.length R))) [a, b, c])) + 0 - List.length (mZ (withW (toZ (cut (R ++ markWrites) (0) (List.length R))) [a, b, c]))) (List.drop (List.length (mZ (withW (toZ (cut (R ++ markWrites) (0) (List.length R))) [a, b, c]))) (mZ (withW (toZ (cut (R ++ markWrites) (0) (List.length R))) [a, b, c]) ++ []))) then bif decide (0 + List.length R ≤ List.length (R ++ markWrites)) then (okZ (3) (cut (R ++ markWrites) (0) (List.length R)) = true ∧ Nat.le (List.length (cut (R ++ markWrites) (0) (List.length R))) (5864062014635) ∧ R = cut (R ++ markWrites) (0) (List.length R) ∧ cut (R ++ markWrites) (0 + List.length R) (List.length R + 2 - List.length R) = markWrites) ∧ K (DV.c (D.v (Value.bool true))) else False else False else False else False else False else False else False else False else False else False else False else False else False else False else False else False else False else False else False else False) := by kernel_rfl
theorem oAwW : SpecOK Try.prog 57 sT := o_of Try.func57 (by kernel_rfl) rfl fun ds Q h => by
  unfold sT at h; split at h
  · exact ⟨_, ct_ask (.cons oWth (.cons oFnd (.cons oAtW (.cons oWMy (.cons oSameWrites (.cons oNum .nil)))))) mixed Try.func57 rfl rfl rfl (by rw [eAwW]), rfl, rfl, h⟩
  · exact h.elim
theorem gX_ok {l : List (FuncId × Spec)} (h : SpecsOK Try.prog l) : CallsOK Try.prog (gX l) := hkl_ok (m := []) h
theorem ct_askX {l : List (FuncId × Spec)} (hH : SpecsOK Try.prog l) {f : FuncId} {fn : Func} {args : List DV} {res : DV} (hL : loopsOf (bodyOf fn) = []) (hf : Try.prog.funcs[f]? = some fn) (hb : fn.body.isSome = true) (hn : Nat.ble args.length fn.ntmps = true) (hfit : (DV.tup args).fit32 = true)
    (h : askX l fn args fun r => r = res) : CT Try.prog f args res := by
  obtain ⟨c, hc⟩ := Option.isSome_iff_exists.1 hb
  have e : bodyOf fn = c := by simp [bodyOf, hc]
  unfold askX at h
  rw [e] at h hL
  exact ct_of_evp (gX_ok hH) mixed 200 hf hc (loops_nil hL) (Nat.le_of_ble_eq_true hn) hfit h
theorem putW_wid {l : List (List Int)} (h : wid 3 l) {r : List Int} (hr : r.length = 3) : wid 3 (putW l r) := fun x hx => by
  unfold putW at hx
  rcases List.mem_append.1 hx with hx | hx
  · exact h x (List.mem_of_mem_take hx)
  · rcases List.mem_cons.1 hx with rfl | hx
    · exact hr
    · exact h x (List.mem_of_mem_drop hx)
theorem withW_wid {l : List (List Int)} (h : wid 3 l) (a b c : Int) : wid 3 (withW l [a, b, c]) := by
  unfold withW
  cases wmay l && okw [a, b, c] with
  | false => intro r hr; cases hr
  | true => exact putW_wid h rfl
theorem withW_len {l : List (List Int)} (r : List Int) : (withW l r).length ≤ 17 := by
  unfold withW
  cases hm : wmay l && okw r with
  | false => simp
  | true =>
    have : wmay l = true := by revert hm; cases wmay l <;> simp
    have h16 := ((wmay_iff l).1 this).1
    simp only [cond_true, putW, List.length_append, List.length_take, List.length_cons, List.length_drop]
    cases hasW l (key r) <;> simp only [cond_true, cond_false] <;> omega
theorem okZW {l : List (List Int)} (h : wid 3 l) (a b c : Int) : okZ 3 (mZ (withW l [a, b, c])) = true := okZ_mZ (withW_wid h a b c) (by have := withW_len (l := l) [a, b, c]; omega)
theorem c14 {R : List (List D)} (sp : List (List D)) (a b c lv ix : Int) (hR : okZ 3 R = true) (hl : R.length ≤ 5864062014635) (h1 : in64 lv = true) (h2 : in64 ix = true) : CT Try.prog 14 [dS 3 R sp, .agg [vI a, vI b, vI c], I lv, I ix] (B true) := by
  refine ct_askX (l := [(46, sWth), (47, sWth), (48, sFnd), (49, sRFd), (51, sAtW), (52, sAtW), (53, sWMy), (54, sWMy), (45, sLendWrites), (50, sSameWrites), (55, sSpoilWrites), (56, sKeptWrites), (27, sI), (57, sT)]) (.cons oWth (.cons oWW (.cons oFnd (.cons oRFd (.cons oAtW (.cons oRWA (.cons oWMy (.cons oWPy (.cons oLendWrites (.cons oSameWrites (.cons oSpoilWrites (.cons oKeptWrites (.cons oNum (.cons oAwW .nil)))))))))))))) rfl Try.func14 rfl rfl rfl ?_
  rw [e14]
  obtain ⟨e1, w1, n1⟩ := okZ_spec hR
  have hv := allV_ok hR
  have hk := keeps_of hv
  have hle : R.length ≤ (R ++ markWrites).length := by simp
  have hw := okZW w1 a b c
  have hvw := allV_ok hw
  have hkw := keeps_of hvw
  have hl2 : R.length ≤ 4611686018427387903 := by omega
  have hT : List.take (mZ (withW (toZ R) [a, b, c])).length (mZ (withW (toZ R) [a, b, c])) = mZ (withW (toZ R) [a, b, c]) := List.take_of_length_le (Nat.le_refl _)
  simp only [cut_app, List.append_nil, Nat.zero_add, Nat.le_refl, decide_true, Bool.and_self, cond_true, cut_all rfl, hR, hv, decide_eq_true hl, decide_eq_true hl2, decide_eq_true hle, h1, h2, hw, hvw, hkw, hT, Bool.not_true, cond_false, bne_self_eq_false, beq_self_eq_true, Nat.add_zero, Nat.sub_self, List.take_zero, List.drop_length, Bool.not_beq_self]
  have hc3 : cut (R ++ markWrites) R.length (R.length + 2 - R.length) = markWrites := by rw [Nat.add_sub_cancel_left]; exact cut_app2
  exact ⟨⟨trivial, hl, trivial, hc3⟩, trivial⟩
abbrev kWr : KT := .sl [.int, .int, .int] 24
theorem wf_in64 {n : Int} (h : (Lit.int .i64 n).wf = true) : in64 n = true := by
  have e1 : IntKind.i64.min = -9223372036854775808 := by decide
  have e2 : IntKind.i64.max = 9223372036854775807 := by decide
  simp only [Lit.wf, e1, e2] at h
  exact h
theorem c14' (x : D) (a b c lv ix : Int) (hx : Good kWr x) (w2 : (Lit.int .i64 lv).wf = true) (w3 : (Lit.int .i64 ix).wf = true) : CT Try.prog 14 [.c x, .agg [vI a, vI b, vI c], I lv, I ix] (B true) := by
  obtain ⟨R, rfl, hR, hl⟩ := Good.rows (z := 3) hx
  exact c14 [] a b c lv ix hR (by omega) (wf_in64 w2) (wf_in64 w3)
end Vm
