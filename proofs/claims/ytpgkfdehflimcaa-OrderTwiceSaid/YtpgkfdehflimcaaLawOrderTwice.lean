/- OrderTwice answers true for every input; the arguments stay. No condition. -/
import Derived.Test.YtpgkfdehflimcaaRows
import Derived.Test.YtpgkfdehflimcaaVOrH
namespace Go.Proofs.Ytpgkfdehflimcaa.orderTwice
open Go Go.ChangeShapes Go.WideShapes Go.ChangeAt Go.RowKit Vm
open Go.ChangeMaps (open_string shut_string)
set_option linter.unusedVariables false
theorem own : ownKnob Try.prog.godebug = none := by kernel_rfl
theorem laidOut : laidOutB Try.prog = true := by kernel_rfl

set_option maxRecDepth 100000 in
theorem lifted (os : Os) (started : os.Started) (H : Type) (enc : TypeId × Value → H) :
    ReturnsInHanded {} Try.checked os 20 .any (Rows.orderTwiceSpec.pre6 enc Try.prog Try.f20 Rows.orderTwiceRow.domain false) (Rows.orderTwiceSpec.post enc Try.prog Try.f20 false true false false) := by
  refine returnsInHanded_of_change_sized (C := Try.checked) own started (by kernel_rfl) Try.func20
    (ChangeSpec.witness6 (enc := enc) (C := Try.checked) false ⟨#[], #[.slice none 0 0, .int .i64 0, .int .i64 0], []⟩ 8 (by kernel_rfl) (by kernel_rfl) (by kernel_rfl) (by kernel_rfl)) ?_
  intro W base args ds gs before hval0 hW hcnd hsz0 _
  have hval : ∀ (j : Nat) t v, Try.f20.params[j]? = some t → args[j]? = some v → Value.okWide Try.prog W .any base t v := hval0
  have hW' := hW
  obtain ⟨p, q, hA0, hV, rfl, hfz, hnd⟩ := hW
  have hA : DataW.TrodAll enc Try.prog W 0 (fun _ => true) true Try.f20.params.toList args.toList ds p := hA0
  have hAk := hA
  rw [Try.params20] at hA hval hAk
  obtain ⟨v0, vs0, d0, ds0, p0, q0, hargs, rfl, rfl, h0, r0⟩ := trodAll_cons hA
  obtain ⟨v1, vs1, d1, ds1, p1, q1, rfl, rfl, rfl, h1, r1⟩ := trodAll_cons r0
  obtain ⟨v2, vs2, d2, ds2, p2, q2, rfl, rfl, rfl, h2, r2⟩ := trodAll_cons r1
  obtain ⟨rfl, rfl, rfl⟩ := trodAll_nil r2
  obtain rfl : args = #[v0, v1, v2] := by cases args; simp_all
  obtain ⟨rfl, rfl⟩ := trodVars_none hV
  obtain ⟨A0, c0, rows0, rfl, hm0, hc0, w0, D0⟩ := rd_rows Try.underlying31 (z := 1) (by kernel_rfl) (by decide) (by kernel_rfl) (hval 0 31 v0 rfl rfl) h0
  have z0 := rd_len Try.underlying31 h0 hsz0 (j := 0) (by rw [Try.params20]; rfl) rfl (b := 8) (by kernel_rfl)
  obtain ⟨n1, rfl, w1⟩ := rd_int Try.underlying3 (hval 1 3 v1 rfl rfl) h1
  obtain ⟨n2, rfl, w2⟩ := rd_int Try.underlying3 (hval 2 3 v2 rfl rfl) h2
  refine (calls_true (c20' rows0 n1 n2 w0 z0) (ovl_tuple (ovl_cons (ov_ro D0) (ovl_cons (ov_int n1) (ovl_cons (ov_int n2) (ovl_nil)))))).mono fun e W' ⟨he, bel⟩ => ?_
  subst he
  exact ⟨_, rfl, _, _, _, [], _, [], hW', trodAll_mk1 (shut_bool Try.underlying4 _), below_trodAll laidOut bel (by decide +kernel) hAk (fun x hx => by simpa using hW'.lt x (by simpa using hx)), rfl, bel.frame _, fun h => by cases h⟩
theorem over : Rows.orderTwiceRow.holds Try.pinned (OpenSpec.ofChange Rows.orderTwiceSpec) :=
  OpenClaim.holds_of_wide 20 Try.f20 rfl rfl rfl rfl rfl rfl rfl ⟨rfl, rfl, rfl, rfl, rfl⟩ rfl rfl rfl rfl rfl (by kernel_rfl) Try.func20 (by kernel_rfl)
    (of_decide_eq_true (by kernel_rfl)) (by unfold Func.isWrapper; first | (rw [if_pos (by decide +kernel)]; kernel_rfl) | (rw [if_neg (by decide +kernel)]; exact ⟨rfl, rfl⟩))
    (fun os started H enc _ => lifted os started H enc)
theorem proved : Rows.OrderTwiceSaid := over
end Go.Proofs.Ytpgkfdehflimcaa.orderTwice
namespace Go.Proofs.Ytpgkfdehflimcaa
/-- The row, under a short name, for the claim. -/
theorem orderTwice_holds : Rows.OrderTwiceSaid := orderTwice.proved
#print axioms orderTwice_holds
end Go.Proofs.Ytpgkfdehflimcaa
