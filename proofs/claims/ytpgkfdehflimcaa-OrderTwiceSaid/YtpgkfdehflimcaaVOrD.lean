/- What the functions of this text do, told by an interpreter that is proved right (YtpgkfdehflimcaaVA to VD). My own work. -/
import Derived.Test.YtpgkfdehflimcaaVOrC
namespace Vm
open Go Go.Proofs
set_option linter.unusedSimpArgs false
set_option linter.unusedVariables false
abbrev mark2 : List (List D) := [[.v (.int .i64 (-7777))], [.v (.int .i64 (-8888))]]
theorem allV_app {R R' : List (List D)} : allV (R ++ R') = (allV R && allV R') := by simp [allV]
theorem c39 {R sp : List (List D)} (hR : allV R = true) (hl : R.length ≤ 17592186044000) : CT Try.prog 39 [dR R sp] (.c (.s 1 1 R mark2)) := by
  refine ct_ask (.cons o62 .nil) mixed Try.func39 rfl rfl rfl ?_
  rw [e39]
  have h1 : (R.length + 2) * 8 ≤ 140737488355328 := by omega
  have h2 : R.length + 2 ≤ 9223372036854775807 := by omega
  have h3 : ((R.length : Nat) : Int) ≤ ((R.length + 2 : Nat) : Int) := by omega
  have hk : ((R ++ mark2).all fun r => r.all D.keeps) = true := keeps_of (by rw [allV_app, hR]; rfl)
  have ht : List.take R.length (R ++ ([] : List (List D))) = R := by simp
  have hk' : ∀ a b : Prop, a → b → a ∧ b := fun _ _ x y => ⟨x, y⟩
  simp only [hR, hl, h1, h2, h3, ht, decide_true, Bool.and_self, cond_true, Bool.true_and, Int.natCast_nonneg, Int.toNat_natCast, Nat.sub_zero, List.append_nil, Nat.le_refl, hk, List.length_append, List.length_cons, List.length_nil, Nat.zero_add, Nat.le_add_right, List.take_left, List.drop_left, Nat.add_sub_cancel_left, Bool.and_true, List.take_length]
  rfl
def sLend : Spec := fun ds Q => match ds with | [.c (.s 0 1 R sp)] => cond (allV R && decide (R.length ≤ 17592186044000)) (Q (.c (.s 1 1 R mark2))) False | _ => False
theorem o39 : SpecOK Try.prog 39 sLend := fun ds Q h => by
  unfold sLend at h; split at h
  · obtain ⟨h1, h2⟩ := cond_P h
    simp only [Bool.and_eq_true, decide_eq_true_eq] at h1
    exact ⟨goes_of Try.func39 (by kernel_rfl) rfl, _, c39 h1.1 h1.2, by simp [DV.pureOwn, DV.pure1, D.pureOwn, ownLL_of h1.1]; rfl, rfl, h2⟩
  · exact h.elim
theorem c44 {R sp : List (List D)} (hR : okR R = true) (hl : R.length ≤ 17592186044000) : CT Try.prog 44 [dR R mark2, dR R sp] (B true) := by
  refine ct_ask (.cons o66 .nil) mixed Try.func44 rfl rfl rfl ?_
  rw [e44]
  have w1 : IntKind.wrap .i64 ((R.length : Int) + 1) = ((R.length + 1 : Nat) : Int) := wrap_id (by omega) (by omega)
  have w2 : IntKind.wrap .i64 ((R.length : Int) + 2) = ((R.length + 2 : Nat) : Int) := wrap_id (by omega) (by omega)
  have hc : cut (R ++ [[D.v (Value.int IntKind.i64 (-7777))], [D.v (Value.int IntKind.i64 (-8888))]]) 0 (R.length + 2) = R ++ mark2 := by
    simp only [cut, List.drop_zero]
    exact List.take_of_length_le (by simp)
  have g1 : (R ++ mark2).getD R.length [] = [D.v (Value.int IntKind.i64 (-7777))] := by simp [List.getD_eq_getElem?_getD]
  have g2 : (R ++ mark2).getD (R.length + 1) [] = [D.v (Value.int IntKind.i64 (-8888))] := by
    rw [List.getD_eq_getElem?_getD, List.getElem?_append_right (by omega)]
    simp
  have hle : (R ++ mark2).length = R.length + 2 := by simp
  have l1 : (R.length : Int) < ((R.length + 2 : Nat) : Int) := by omega
  have l2 : ((R.length + 1 : Nat) : Int) < ((R.length + 2 : Nat) : Int) := by omega
  simp only [w1, w2, Int.natCast_nonneg, Int.toNat_natCast, Nat.sub_zero, hc, hle, l1, l2, g1, g2, hR, decide_true, Bool.and_self, cond_true, List.drop_zero, Int.le_refl, Bool.true_and]
  rfl
def sKept : Spec := fun ds Q => match ds with
  | [.c (.s 0 1 R sp), .c (.s 0 1 R' sp')] => (okR R = true ∧ R.length ≤ 17592186044000 ∧ R' = R ∧ sp = mark2) ∧ Q (B true)
  | _ => False
theorem o44 : SpecOK Try.prog 44 sKept := fun ds Q h => by
  unfold sKept at h; split at h
  · obtain ⟨⟨h1, h2, rfl, rfl⟩, h3⟩ := h
    exact ⟨goes_of Try.func44 (by kernel_rfl) rfl, _, c44 h1 h2, rfl, rfl, h3⟩
  · exact h.elim
theorem e45 (K : DV → Prop) : (ask Try.prog [(40, sJoin), (42, sChain), (23, sI)] Try.f45 [] K) = (K (DV.c (D.v (Value.bool true)))) := by kernel_rfl
theorem e16 (R sp : List (List D)) (K : DV → Prop) : (ask Try.prog [(39, sLend), (40, sJoin), (41, sJoin), (42, sChain), (43, sChain), (23, sI), (44, sKept), (45, sT)] Try.f16 [dR R sp] K) = (bif allV R && decide (List.length R ≤ 17592186044000) then bif decide (0 + List.length R ≤ List.length (R ++ [[D.v (Value.int IntKind.i64 (-7777))], [D.v (Value.int IntKind.i64 (-8888))]])) then bif okR (cut (R ++ [[D.v (Value.int IntKind.i64 (-7777))], [D.v (Value.int IntKind.i64 (-8888))]]) (0) (List.length R)) then bif okR R then bif decide (0 + List.length R ≤ List.length (R ++ [[D.v (Value.int IntKind.i64 (-7777))], [D.v (Value.int IntKind.i64 (-8888))]])) then bif okR (cut (R ++ [[D.v (Value.int IntKind.i64 (-7777))], [D.v (Value.int IntKind.i64 (-8888))]]) (0) (List.length R)) then bif okR R then bif (joinI (toI (cut (R ++ [[D.v (Value.int IntKind.i64 (-7777))], [D.v (Value.int IntKind.i64 (-8888))]]) (0) (List.length R)))).a == (joinI (toI R)).a then bif (joinI (toI (cut (R ++ [[D.v (Value.int IntKind.i64 (-7777))], [D.v (Value.int IntKind.i64 (-8888))]]) (0) (List.length R)))).e == (joinI (toI R)).e then bif (chainI (toI (cut (R ++ [[D.v (Value.int IntKind.i64 (-7777))], [D.v (Value.int IntKind.i64 (-8888))]]) (0) (List.length R)))).a == (chainI (toI R)).a then bif (chainI (toI (cut (R ++ [[D.v (Value.int IntKind.i64 (-7777))], [D.v (Value.int IntKind.i64 (-8888))]]) (0) (List.length R)))).e == (chainI (toI R)).e then bif decide (0 + List.length R ≤ List.length (R ++ [[D.v (Value.int IntKind.i64 (-7777))], [D.v (Value.int IntKind.i64 (-8888))]])) then (okR (cut (R ++ [[D.v (Value.int IntKind.i64 (-7777))], [D.v (Value.int IntKind.i64 (-8888))]]) (0) (List.length R)) = true ∧ Nat.le (List.length (cut (R ++ mark2) (0) (List.length R))) (17592186044000) ∧ R = cut (R ++ [[D.v (Value.int IntKind.i64 (-7777))], [D.v (Value.int IntKind.i64 (-8888))]]) (0) (List.length R) ∧ cut (R ++ [[D.v (Value.int IntKind.i64 (-7777))], [D.v (Value.int IntKind.i64 (-8888))]]) (0 + List.length R) (List.length R + 2 - List.length R) = [[D.v (Value.int IntKind.i64 (-7777))], [D.v (Value.int IntKind.i64 (-8888))]]) ∧ K (DV.c (D.v (Value.bool true))) else False else K (DV.c (D.v (Value.bool false))) else K (DV.c (D.v (Value.bool false))) else K (DV.c (D.v (Value.bool false))) else K (DV.c (D.v (Value.bool false))) else False else False else False else False else False else False else False) := by kernel_rfl
theorem o45 : SpecOK Try.prog 45 sT := oT Try.func45 (by kernel_rfl) rfl (ct_ask (.cons o40 (.cons o42 (.cons o23 .nil))) mixed Try.func45 rfl rfl rfl (by rw [e45]))
theorem cut_app {R sp : List (List D)} : cut (R ++ sp) 0 R.length = R := by simp [cut]
theorem cut_app2 {R sp : List (List D)} : cut (R ++ sp) R.length sp.length = sp := by simp [cut]
theorem c16 {R sp : List (List D)} (hR : okR R = true) (hl : R.length ≤ 17592186044000) : CT Try.prog 16 [dR R sp] (B true) := by
  refine ct_ask (.cons o39 (.cons o40 (.cons o41 (.cons o42 (.cons o43 (.cons o23 (.cons o44 (.cons o45 .nil)))))))) mixed Try.func16 rfl rfl rfl ?_
  rw [e16]
  have hc : cut (R ++ mark2) (0 + R.length) (R.length + 2 - R.length) = mark2 := by
    rw [Nat.zero_add, Nat.add_sub_cancel_left]; exact cut_app2
  simp only [cut_app, hR, allV_of hR, hl, Nat.zero_add, List.length_append, Nat.le_add_right, decide_true, Bool.and_self, cond_true, beq_self_eq_true]
  exact ⟨⟨trivial, hl, trivial, by simpa using hc⟩, trivial⟩
theorem okR_rows (rows : List (List Int)) (hw : ∀ r ∈ rows, r.length = 1 ∧ ∀ n ∈ r, (Lit.int .i64 n).wf = true) (hl : rows.length ≤ 9223372036854775807) : okR (rows.map fun r => r.map vi) = true := by
  simp only [okR, Bool.and_eq_true, List.all_eq_true]
  refine ⟨fun r hr => ?_, Nat.ble_eq_true_of_le (by simpa using hl)⟩
  obtain ⟨r0, h0, rfl⟩ := List.mem_map.1 hr
  obtain ⟨n, hn⟩ := len1 _ (hw r0 h0).1
  rw [hn]
  exact ⟨rfl, fun d hd => by simp at hd; subst hd; rfl⟩
theorem c16' (rows : List (List Int)) (hw : ∀ r ∈ rows, r.length = 1 ∧ ∀ n ∈ r, (Lit.int .i64 n).wf = true) (hl : rows.length * 8 ≤ 140737488351232) : CT Try.prog 16 [.c (.s 0 1 (rows.map fun r => r.map vi) [])] (B true) :=
  c16 (okR_rows rows hw (by omega)) (by simp; omega)
end Vm
