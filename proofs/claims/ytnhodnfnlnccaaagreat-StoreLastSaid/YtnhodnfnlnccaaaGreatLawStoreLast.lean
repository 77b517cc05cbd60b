/- StoreLast answers true for every input; the arguments stay. No condition. -/
import Derived.Test.YtnhodnfnlnccaaaGreatRows
import Derived.Test.YtnhodnfnlnccaaaGreatSl5
namespace Go.Proofs.YtnhodnfnlnccaaaGreat.storeLast
open Go Go.ChangeShapes Go.WideShapes Go.ChangeAt Go.RowKit Vm
open Go.ChangeMaps (open_string shut_string)
set_option linter.unusedVariables false
theorem own : ownKnob Tryz.prog.godebug = none := by kernel_rfl
theorem laidOut : laidOutB Tryz.prog = true := by kernel_rfl

set_option maxRecDepth 100000 in
theorem lifted (os : Os) (started : os.Started) (H : Type) (enc : TypeId × Value → H) :
    ReturnsInHanded {} Tryz.checked os 17 .any (Rows.storeLastSpec.pre6 enc Tryz.prog Tryz.f17 Rows.storeLastRow.domain false) (Rows.storeLastSpec.post enc Tryz.prog Tryz.f17 false true false false) := by
  refine returnsInHanded_of_change_sized (C := Tryz.checked) own started (by kernel_rfl) Tryz.func17
    (ChangeSpec.witness6 (enc := enc) (C := Tryz.checked) false ⟨#[], #[.slice none 0 0], []⟩ 8 (by kernel_rfl) (by kernel_rfl) (by kernel_rfl) (by kernel_rfl)) ?_
  intro W base args ds gs before hval0 hW hcnd hsz0 _
  have hval : ∀ (j : Nat) t v, Tryz.f17.params[j]? = some t → args[j]? = some v → Value.okWide Tryz.prog W .any base t v := hval0
  have hW' := hW
  obtain ⟨p, q, hA0, hV, rfl, hfz, hnd⟩ := hW
  have hA : DataW.TrodAll enc Tryz.prog W 0 (fun _ => true) true Tryz.f17.params.toList args.toList ds p := hA0
  have hAk := hA
  rw [Tryz.params17] at hA hval hAk
  obtain ⟨v0, vs0, d0, ds0, p0, q0, hargs, rfl, rfl, h0, r0⟩ := trodAll_cons hA
  obtain ⟨rfl, rfl, rfl⟩ := trodAll_nil r0
  obtain rfl : args = #[v0] := by cases args; simp_all
  obtain ⟨rfl, rfl⟩ := trodVars_none hV
  obtain ⟨A0, c0, rows0, rfl, hm0, hc0, w0, D0⟩ := rd_rows Tryz.underlying22 (z := 1) (by kernel_rfl) (by decide) (by kernel_rfl) (hval 0 22 v0 rfl rfl) h0
  have z0 := rd_len Tryz.underlying22 h0 hsz0 (j := 0) (by rw [Tryz.params17]; rfl) rfl (b := 8) (by kernel_rfl)
  refine (calls_true (cSLg rows0 w0 z0) (ovl_tuple (ovl_cons (ov_ro D0) (ovl_nil)))).mono fun e W' ⟨he, bel⟩ => ?_
  subst he
  exact ⟨_, rfl, _, _, _, [], _, [], hW', trodAll_mk1 (shut_bool Tryz.underlying4 _), below_trodAll laidOut bel (by decide +kernel) hAk (fun x hx => by simpa using hW'.lt x (by simpa using hx)), rfl, bel.frame _, fun h => by cases h⟩
theorem over : Rows.storeLastRow.holds Tryz.pinned (OpenSpec.ofChange Rows.storeLastSpec) :=
  OpenClaim.holds_of_wide 17 Tryz.f17 rfl rfl rfl rfl rfl rfl rfl ⟨rfl, rfl, rfl, rfl, rfl⟩ rfl rfl rfl rfl rfl (by kernel_rfl) Tryz.func17 (by kernel_rfl)
    (of_decide_eq_true (by kernel_rfl)) (by unfold Func.isWrapper; first | (rw [if_pos (by decide +kernel)]; kernel_rfl) | (rw [if_neg (by decide +kernel)]; exact ⟨rfl, rfl⟩))
    (fun os started H enc _ => lifted os started H enc)
theorem proved : Rows.StoreLastSaid := over
end Go.Proofs.YtnhodnfnlnccaaaGreat.storeLast
namespace Go.Proofs.YtnhodnfnlnccaaaGreat
/-- The row, under a short name, for the claim. -/
theorem storeLast_holds : Rows.StoreLastSaid := storeLast.proved
#print axioms storeLast_holds
end Go.Proofs.YtnhodnfnlnccaaaGreat
