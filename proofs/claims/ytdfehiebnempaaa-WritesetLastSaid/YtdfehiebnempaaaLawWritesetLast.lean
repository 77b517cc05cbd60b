/- WritesetLast answers true for every input; the arguments stay. No condition. -/
import Derived.Test.YtdfehiebnempaaaRows
import Derived.Test.YtdfehiebnempaaaGWsK
namespace Go.Proofs.Ytdfehiebnempaaa.writesetLast
open Go Go.ChangeShapes Go.WideShapes Go.ChangeAt Go.RowKit Vm
open Go.ChangeMaps (open_string shut_string)
set_option linter.unusedVariables false
theorem own : ownKnob Try.prog.godebug = none := by kernel_rfl
theorem laidOut : laidOutB Try.prog = true := by kernel_rfl

set_option maxRecDepth 100000 in
theorem lifted (os : Os) (started : os.Started) (H : Type) (enc : TypeId × Value → H) :
    ReturnsInHanded {} Try.checked os 15 .any (Rows.writesetLastSpec.pre6 enc Try.prog Try.f15 Rows.writesetLastRow.domain false) (Rows.writesetLastSpec.post enc Try.prog Try.f15 false true false false) := by
  refine returnsInHanded_of_change_sized (C := Try.checked) own started (by kernel_rfl) Try.func15
    (ChangeSpec.witness6 (enc := enc) (C := Try.checked) false ⟨#[], #[.slice none 0 0], []⟩ 8 (by kernel_rfl) (by kernel_rfl) (by kernel_rfl) (by kernel_rfl)) ?_
  intro W base args ds gs before hval0 hW hcnd hsz0 _
  have hval : ∀ (j : Nat) t v, Try.f15.params[j]? = some t → args[j]? = some v → Value.okWide Try.prog W .any base t v := hval0
  have hW' := hW
  obtain ⟨p, q, hA0, hV, rfl, hfz, hnd⟩ := hW
  have hA : DataW.TrodAll enc Try.prog W 0 (fun _ => true) true Try.f15.params.toList args.toList ds p := hA0
  have hAk := hA
  rw [Try.params15] at hA hval hAk
  obtain ⟨v0, vs0, d0, ds0, p0, q0, hargs, rfl, rfl, h0, r0⟩ := trodAll_cons hA
  obtain ⟨rfl, rfl, rfl⟩ := trodAll_nil r0
  obtain rfl : args = #[v0] := by cases args; simp_all
  obtain ⟨rfl, rfl⟩ := trodVars_none hV
  obtain ⟨x0, g0, ov0⟩ := rd_sl (c := (.sl [.int] 8)) 9 (by kernel_rfl) (okWide_slice Try.underlying24 (hval 0 24 v0 rfl rfl)) h0 hsz0 (j := 0) (by rw [Try.params15]; rfl) rfl
  refine (calls_true (c15' x0 g0) (ovl_tuple (ovl_cons (ov0) (ovl_nil)))).mono fun e W' ⟨he, bel⟩ => ?_
  subst he
  exact ⟨_, rfl, _, _, _, [], _, [], hW', trodAll_mk1 (shut_bool Try.underlying4 _), below_trodAll laidOut bel (by decide +kernel) hAk (fun x hx => by simpa using hW'.lt x (by simpa using hx)), rfl, bel.frame _, fun h => by cases h⟩
theorem over : Rows.writesetLastRow.holds Try.pinned (OpenSpec.ofChange Rows.writesetLastSpec) :=
  OpenClaim.holds_of_wide 15 Try.f15 rfl rfl rfl rfl rfl rfl rfl ⟨rfl, rfl, rfl, rfl, rfl⟩ rfl rfl rfl rfl rfl (by kernel_rfl) Try.func15 (by kernel_rfl)
    (of_decide_eq_true (by kernel_rfl)) (by unfold Func.isWrapper; first | (rw [if_pos (by decide +kernel)]; kernel_rfl) | (rw [if_neg (by decide +kernel)]; exact ⟨rfl, rfl⟩))
    (fun os started H enc _ => lifted os started H enc)
theorem proved : Rows.WritesetLastSaid := over
end Go.Proofs.Ytdfehiebnempaaa.writesetLast
namespace Go.Proofs.Ytdfehiebnempaaa
/-- The row, under a short name, for the claim. -/
theorem writesetLast_holds : Rows.WritesetLastSaid := writesetLast.proved
#print axioms writesetLast_holds
end Go.Proofs.Ytdfehiebnempaaa
