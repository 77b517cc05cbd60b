/- What the functions of this text do, told by an interpreter that is proved right (YtdfehiebnempaaaVA to VD). My own work. -/
import Derived.Test.YtdfehiebnempaaaVArG
import Derived.Test.YtdfehiebnempaaaVD
namespace Vm
open Go Go.Proofs
set_option linter.unusedSimpArgs false
set_option linter.unusedVariables false
set_option maxRecDepth 100000
/-! ### reads -/
theorem any_find {α : Type} (l : List α) (p : α → Bool) : decide ((match l.findIdx? p with | some i => (i : Int) | none => -1) ≥ 0) = l.any p := by
  cases h : l.findIdx? p with
  | some i =>
    have : l.any p = true := by
      rw [List.findIdx?_eq_some_iff_getElem] at h
      obtain ⟨h1, h2, _⟩ := h
      exact List.any_eq_true.2 ⟨_, List.getElem_mem h1, h2⟩
    rw [this]; simp
  | none =>
    have : l.any p = false := by
      rw [List.findIdx?_eq_none_iff] at h
      rw [List.any_eq_false]; intro x hx; simpa using h x hx
    rw [this]; rfl
def ix4 (x : Int) : Bool := upto x 0 3
theorem eIdx (x : Int) (K : DV → Prop) : (ask Try.prog [] Try.f78 [I x] K) = (bif decide (x ≥ 0) then K (DV.c (D.v (Value.bool (decide (x < 4))))) else K (DV.c (D.v (Value.bool false)))) := by kernel_rfl
theorem oIdx : SpecOK Try.prog 78 (sB ix4) := oB Try.func78 (by kernel_rfl) rfl fun x => ct_ask .nil mixed Try.func78 rfl rfl rfl (by
  rw [eIdx]; unfold ix4 upto; rw [lt4]; cases decide (x ≥ 0) <;> rfl)
def askE (k : Nat) (fn : Func) (args : List DV) (K : DV → Prop) : Prop := evp Try.prog (hkl [] []) 200 (bodyOf fn) (finF Try.prog fn k K) (entryX fn.ntmps args)
theorem eOf (a b c : Int) (K : DV → Prop) : (askE 2 Try.f72 [.agg [vi a, vi b, vi c]] K) = (K (DV.c (D.f (97) [] [D.p (0) [D.v (Value.int IntKind.i64 a), D.v (Value.int IntKind.i64 b), D.v (Value.int IntKind.i64 c)] (0)]))) := by kernel_rfl
def sOf : Spec := fun ds Q => match ds with | [.agg [.v (.int .i64 a), .v (.int .i64 b), .v (.int .i64 c)]] => Q (.c (.f 97 [] [.p 0 [vI a, vI b, vI c] 0])) | _ => False
theorem oOf : SpecOK Try.prog 72 sOf := o_ofP Try.func72 (by kernel_rfl) rfl fun ds Q h => by
  unfold sOf at h; split at h
  · rename_i a b c
    refine ⟨_, ct_of_evpF (H := hkl [] []) 2 (hkl_ok .nil) mixed 200 Try.func72 rfl (loops_nil rfl) (Nat.le_of_ble_eq_true rfl) rfl ?_, rfl, rfl, h⟩
    have e := eOf a b c (fun r => r = .c (.f 97 [] [.p 0 [vI a, vI b, vI c] 0]))
    exact e.mpr rfl
  · exact h.elim
theorem eOf1 (a b c x y z : Int) (K : DV → Prop) : (ask Try.prog [] Try.f97 [.agg [vi x, vi y, vi z], .c (.p 0 [vI a, vI b, vI c] 0)] K) = (bif x == a then K (DV.c (D.v (Value.bool (y == b)))) else K (DV.c (D.v (Value.bool false)))) := by kernel_rfl
def sameW (a b c : Int) (r : List Int) : Bool := bif r.getD 0 0 == a then r.getD 1 0 == b else false
def sOf1 : Spec := fun ds Q => match ds with | [.agg [.v (.int .i64 x), .v (.int .i64 y), .v (.int .i64 z)], .c (.p 0 [.v (.int .i64 a), .v (.int .i64 b), .v (.int .i64 c)] 0)] => Q (B (sameW a b c [x, y, z])) | _ => False
theorem oOf1 : SpecOK Try.prog 97 sOf1 := o_of Try.func97 (by kernel_rfl) rfl fun ds Q h => by
  unfold sOf1 at h; split at h
  · rename_i x y z a b c
    refine ⟨_, ct_ask .nil mixed Try.func97 rfl rfl rfl ?_, rfl, rfl, h⟩
    rw [eOf1]; unfold sameW; simp only [List.getD_cons_zero, List.getD_cons_succ]; cases x == a <;> rfl
  · exact h.elim
def sIXR (a : Int) (b : Int) (c : Int) (R : List (List D)) (sp : List (List D)) (v : Int) (i : Int) : X := ⟨mkT 19 [(0, aS 3 R sp), (1, .c (.d (.f 97 [] [.p 0 [vI a, vI b, vI c] 0]))), (4, ai v), (7, ai R.length), (8, ai i)], [], []⟩
def v_sIXR (a : Int) (b : Int) (c : Int) (R : List (List D)) (sp : List (List D)) : Vw := fun y K => wI y 4 fun v => wI y 8 fun i => K (sIXR a b c R sp v i)
theorem v_sIXR_ok (a : Int) (b : Int) (c : Int) (R : List (List D)) (sp : List (List D)) : VwOK (v_sIXR a b c R sp) := fun y K h => by
  unfold v_sIXR at h
  obtain ⟨v, h⟩ := wI_ex h
  obtain ⟨i, h⟩ := wI_ex h
  exact ⟨_, h⟩
theorem rIXR (a : Int) (b : Int) (c : Int) (R sp : List (List D)) (i v : Int) (N : X → Prop) (E : Exit → X → Prop) : (roundW Try.prog (hkA band bor [(97, sOf1)] []) Try.f96 0 [] [0, 1, 4, 7, 8] [] (v_sIXR a b c R sp) (v_sIXR a b c R sp) N E (sIXR a b c R sp v i)) = (bif decide (i < @Nat.cast Int _ (List.length R)) then bif decide (0 ≤ i) && decide (i < @Nat.cast Int _ (List.length R)) then bif isJ [IntKind.i64, IntKind.i64, IntKind.i64] (List.drop (0) (List.getD R (Int.toNat i) [])) then bif sameW a b c [hdJ (List.drop (0) (List.getD R (Int.toNat i) [])), hdJ (List.tail (List.drop (0) (List.getD R (Int.toNat i) []))), hdJ (List.tail (List.tail (List.drop (0) (List.getD R (Int.toNat i) []))))] then sIXR a b c R sp i i = sIXR a b c R sp i i ∧ E Exit.ret (sIXR a b c R sp i i) else sIXR a b c R sp v (IntKind.wrap IntKind.i64 (i + 1)) = sIXR a b c R sp v (IntKind.wrap IntKind.i64 (i + 1)) ∧ N (sIXR a b c R sp v (IntKind.wrap IntKind.i64 (i + 1))) else False else False else sIXR a b c R sp v i = sIXR a b c R sp v i ∧ E (Exit.exit (0)) (sIXR a b c R sp v i)) := by kernel_rfl
def fIXR (a : Int) (b : Int) (c : Int) (l : List (List Int)) (sp : List (List D)) : LSum := findS [0, 1, 4, 7, 8] [] (fun i => sIXR a b c (mZ l) sp 0 i) (fun i => sIXR a b c (mZ l) sp i i) l.length (fun i => sameW a b c (l.getD i [])) .ret (.exit 0)
theorem eIXR (a : Int) (b : Int) (c : Int) (l : List (List Int)) (sp : List (List D)) (K : DV → Prop) : (askL Try.prog [] [(2, fIXR a b c l sp)] Try.f96 [dS 3 (mZ l) sp, .c (.f 97 [] [.p 0 [vI a, vI b, vI c] 0])] K) = (sIXR a b c (mZ l) sp (0) (0) = sIXR a b c (mZ l) sp (0) (0) ∧ (∀ (i : Nat), firstAt (fun i => sameW a b c (List.getD l i [])) (List.length l) i → K (DV.c (D.v (Value.int IntKind.i64 (@Nat.cast Int _ i))))) ∧ (noneTo (fun i => sameW a b c (List.getD l i [])) (List.length l) → K (DV.c (D.v (Value.int IntKind.i64 (-1)))))) := by kernel_rfl
theorem kIXR (a : Int) (b : Int) (c : Int) {l : List (List Int)} {sp : List (List D)} (hw : wid 3 l) (hn : l.length ≤ 9223372036854775807) (Q : Exit → X → Prop) (x : X) (h : fIXR a b c l sp Q x) : XWP Try.prog (.loop (bodyL Try.f96 0)) Q x := by
  refine xwp_find (H := hkA band bor [(97, sOf1)] []) (sw := []) (V := v_sIXR a b c (mZ l) sp) (VE := v_sIXR a b c (mZ l) sp) (hkl_ok (.cons oOf1 .nil)) mixed (loops_nil rfl) (v_sIXR_ok a b c (mZ l) sp) (v_sIXR_ok a b c (mZ l) sp) _ _ _ _ _ _ (fun i hl N E h1 h2 => ?_) (fun N E h1 => ?_) Q x h
  · rw [rIXR]
    have wi : IntKind.wrap .i64 ((i : Int) + 1) = ((i + 1 : Nat) : Int) := wrap_nat (n := 1) (by omega)
    have hj1 : isJ [IntKind.i64, IntKind.i64, IntKind.i64] ((mZ l).getD i []) = true := isJ_mZ (j := 0) (n := 3) hw hl (by omega)
    simp only [mZ_len, Int.ofNat_lt, hl, decide_true, cond_true, Int.natCast_nonneg, Bool.and_self, Int.toNat_natCast, hdJ_mZt1, hdJ_mZt2, hdJ_mZt3, hj1, List.drop_zero, hdJ_mZ0, true_and, wi]
    have e : sameW a b c (l.getD i []) = sameW a b c [(l.getD i []).getD 0 0, (l.getD i []).getD 1 0, (l.getD i []).getD 2 0] := rfl
    cases ho : sameW a b c (l.getD i []) with
    | false => rw [e] at ho; rw [ho]; exact h2 (by rw [e]; exact ho)
    | true => rw [e] at ho; rw [ho]; exact h1 (by rw [e]; exact ho)
  · rw [rIXR]
    simp only [mZ_len, Int.ofNat_lt, Nat.lt_irrefl, decide_false, cond_false, true_and]
    exact h1
def sIxR : Spec := fun ds Q => match ds with | [.c (.s 0 3 R sp), .c (.f 97 [] [.p 0 [.v (.int .i64 a), .v (.int .i64 b), .v (.int .i64 c)] 0])] => cond (okZ 3 R) (Q (I (match (toZ R).findIdx? (sameW a b c) with | some i => (i : Int) | none => -1))) False | _ => False
theorem oIxR : SpecOK Try.prog 96 sIxR := o_of Try.func96 (by kernel_rfl) rfl fun ds Q h => by
  unfold sIxR at h; split at h
  · rename_i R sp a b c
    obtain ⟨h1, h2⟩ := cond_P h
    obtain ⟨e1, w1, n1⟩ := okZ_spec h1
    rw [e1]
    rw [← toZ_len R] at n1
    generalize toZ R = l at *
    refine ⟨_, ct_askL (l := []) (m := [(2, fIXR a b c l sp)]) .nil mixed (loops1 rfl (by kernel_rfl) (kIXR a b c w1 n1)) Try.func96 rfl rfl rfl ?_, rfl, rfl, h2⟩
    rw [eIXR]
    refine ⟨rfl, fun i hi => ?_, fun hn => ?_⟩
    · rw [hi.find]
    · rw [hn.find]
  · exact h.elim
theorem eCOR (a : Int) (b : Int) (c : Int) (R sp : List (List D)) (K : DV → Prop) : (ask Try.prog [(96, sIxR)] Try.f71 [dS 3 R sp, .c (.f 97 [] [.p 0 [vI a, vI b, vI c] 0])] K) = (bif okZ (3) R then K (DV.c (D.v (Value.bool (decide ((match List.findIdx? (sameW a b c) (toZ R) with | some i => @Nat.cast Int _ i | none => -1) ≥ 0))))) else False) := by kernel_rfl
def sCoR : Spec := fun ds Q => match ds with | [.c (.s 0 3 R sp), .c (.f 97 [] [.p 0 [.v (.int .i64 a), .v (.int .i64 b), .v (.int .i64 c)] 0])] => cond (okZ 3 R) (Q (B ((toZ R).any (sameW a b c)))) False | _ => False
theorem oCoR : SpecOK Try.prog 71 sCoR := o_of Try.func71 (by kernel_rfl) rfl fun ds Q h => by
  unfold sCoR at h; split at h
  · obtain ⟨h1, h2⟩ := cond_P h
    refine ⟨_, ct_ask (.cons oIxR .nil) mixed Try.func71 rfl rfl rfl ?_, rfl, rfl, h2⟩
    rw [eCOR, h1, any_find]; rfl
  · exact h.elim
def ok1 (a b c : Int) : Bool := bif lab a then bif ix4 b then clk c else false else false
theorem eWN (x y : Int) (K : DV → Prop) : (ask Try.prog [(92, sB lab), (91, sUp)] Try.f80 [I x, I y] K) = (bif lab x then K (DV.c (D.v (Value.bool (decide (y ≥ 0) && decide (y ≤ 3))))) else K (DV.c (D.v (Value.bool false)))) := by kernel_rfl
def wnm (x y : Int) : Bool := bif lab x then ix4 y else false
def sWN : Spec := fun ds Q => match ds with | [.c (.v (.int .i64 x)), .c (.v (.int .i64 y))] => Q (B (wnm x y)) | _ => False
theorem oWN : SpecOK Try.prog 80 sWN := o_of Try.func80 (by kernel_rfl) rfl fun ds Q h => by
  unfold sWN at h; split at h
  · rename_i x y
    refine ⟨_, ct_ask (.cons oRLab (.cons oUp .nil)) mixed Try.func80 rfl rfl rfl ?_, rfl, rfl, h⟩
    rw [eWN]; unfold wnm ix4 upto; cases lab x <;> rfl
  · exact h.elim
theorem eRId (x : Int) (K : DV → Prop) : (ask Try.prog [(91, sUp)] Try.f75 [I x] K) = (K (DV.c (D.v (Value.bool (decide (x ≥ 0) && decide (x ≤ 254)))))) := by kernel_rfl
theorem eId (x : Int) (K : DV → Prop) : (ask Try.prog [(93, sIn)] Try.f74 [I x] K) = (K (DV.c (D.v (Value.bool (decide (x ≥ 0) && decide (x ≤ 254)))))) := by kernel_rfl
theorem oId : SpecOK Try.prog 74 (sB idm) := oB Try.func74 (by kernel_rfl) rfl fun x => ct_ask (.cons oIn .nil) mixed Try.func74 rfl rfl rfl (by rw [eId]; rfl)
theorem oRId : SpecOK Try.prog 75 (sB idm) := oB Try.func75 (by kernel_rfl) rfl fun x => ct_ask (.cons oUp .nil) mixed Try.func75 rfl rfl rfl (by rw [eRId]; rfl)
end Vm