/-
  No cell of these rows narrows 'for every input' (looked for: loops, veiled, ifaces, maps, wideKeys, modest, calm, conditions, laid).
  DERIVED. THE GIVEN ROWS OF THIS SEAT. 6 by the template 'for every input the law returns true; each argument reads behind the call as it read before'; 0 by the template 'total and deterministic' (their statements: YtcjilmhaaeibjaaTotals.lean).
  GIVEN WITH THE SEED: the statements are not yours to turn. If you find one false, say at which input.
  Laid BY PROGRAM, IN A SANDBOX (cutbox-rows.mjs): the forced cells as the released guide's own fill.sh prints them over the translation af04a5dc2dffe666… (all of the seat's roots in one cut). By AI agents, Wed Nov 11 2026. No macro, syntax, notation, axiom, sorry.
-/
import Derived.Test.YtcjilmhaaeibjaaChecked
import GoSem.Claim
import GoSem.ClaimJoined
import GoSem.ClaimMapViews
import Derived.JoinedTies
import Derived.KernelRfl
namespace Go.Proofs.Ytcjilmhaaeibjaa
/- THE CELL 'sum', in the pinned program and in every row, IS THE sha256 OF THE DUMP (.gsa) THAT YtcjilmhaaeibjaaProg.lean LOADS. Nothing in Lean hashes anything: it is a label: what it is worth is what the hold of that sum in a sandbox is worth. -/
noncomputable def Try.pinned : Pinned := { name := "ytcjilmhaaeibjaa", sum := "af04a5dc2dffe666808781be60b780655cb5ff07070591ff158c8e595007ee03", checked := Try.checked }
namespace Rows
def none {H : Type} : Left H := { results := [], args := [] }

/-- 'veillaw0.VeilNames': WHATEVER THE INPUT: true; the input reads as it did. -/
def veilNamesSpec : ChangeSpec := { name := "veilNames", fn := fun _ => fun
  | [] => { results := [.lit (.bool true)], args := [] }
  | _ => none }
def veilNamesRow : OpenClaim := { program := "ytcjilmhaaeibjaa", sum := "af04a5dc2dffe666808781be60b780655cb5ff07070591ff158c8e595007ee03", func := "veil/veillaw0.VeilNames", spec := "veilNames", apart := false }
def VeilNamesSaid : Prop := veilNamesRow.holds Try.pinned (OpenSpec.ofChange veilNamesSpec)

/-- ITS FALSE NEIGHBOUR: 'it returns false'. Refute it at one input. -/
def veilNamesWrong : ChangeSpec := { name := "veilNames", fn := fun _ => fun
  | [] => { results := [.lit (.bool false)], args := [] }
  | _ => none }
def VeilNamesWrongFalsely : Prop := veilNamesRow.holds Try.pinned (OpenSpec.ofChange veilNamesWrong)

/-- 'veillaw1.Labels': WHATEVER THE INPUT: true; the input reads as it did. -/
def labelsSpec : ChangeSpec := { name := "labels", fn := fun _ => fun
  | [d1, d2] => { results := [.lit (.bool true)], args := [d1, d2] }
  | _ => none }
def labelsRow : OpenClaim := { program := "ytcjilmhaaeibjaa", sum := "af04a5dc2dffe666808781be60b780655cb5ff07070591ff158c8e595007ee03", func := "veil/veillaw1.Labels", spec := "labels", apart := false }
def LabelsSaid : Prop := labelsRow.holds Try.pinned (OpenSpec.ofChange labelsSpec)

/-- ITS FALSE NEIGHBOUR: 'it returns false'. Refute it at one input. -/
def labelsWrong : ChangeSpec := { name := "labels", fn := fun _ => fun
  | [d1, d2] => { results := [.lit (.bool false)], args := [d1, d2] }
  | _ => none }
def LabelsWrongFalsely : Prop := labelsRow.holds Try.pinned (OpenSpec.ofChange labelsWrong)

/-- 'veillaw1.LabelLattice': WHATEVER THE INPUT: true; the input reads as it did. -/
def labelLatticeSpec : ChangeSpec := { name := "labelLattice", fn := fun _ => fun
  | [d1, d2, d3] => { results := [.lit (.bool true)], args := [d1, d2, d3] }
  | _ => none }
def labelLatticeRow : OpenClaim := { program := "ytcjilmhaaeibjaa", sum := "af04a5dc2dffe666808781be60b780655cb5ff07070591ff158c8e595007ee03", func := "veil/veillaw1.LabelLattice", spec := "labelLattice", apart := false }
def LabelLatticeSaid : Prop := labelLatticeRow.holds Try.pinned (OpenSpec.ofChange labelLatticeSpec)

/-- ITS FALSE NEIGHBOUR: 'it returns false'. Refute it at one input. -/
def labelLatticeWrong : ChangeSpec := { name := "labelLattice", fn := fun _ => fun
  | [d1, d2, d3] => { results := [.lit (.bool false)], args := [d1, d2, d3] }
  | _ => none }
def LabelLatticeWrongFalsely : Prop := labelLatticeRow.holds Try.pinned (OpenSpec.ofChange labelLatticeWrong)

/-- 'veillaw1.LabelForms': WHATEVER THE INPUT: true; the input reads as it did. -/
def labelFormsSpec : ChangeSpec := { name := "labelForms", fn := fun _ => fun
  | [d1, d2] => { results := [.lit (.bool true)], args := [d1, d2] }
  | _ => none }
def labelFormsRow : OpenClaim := { program := "ytcjilmhaaeibjaa", sum := "af04a5dc2dffe666808781be60b780655cb5ff07070591ff158c8e595007ee03", func := "veil/veillaw1.LabelForms", spec := "labelForms", apart := false }
def LabelFormsSaid : Prop := labelFormsRow.holds Try.pinned (OpenSpec.ofChange labelFormsSpec)

/-- ITS FALSE NEIGHBOUR: 'it returns false'. Refute it at one input. -/
def labelFormsWrong : ChangeSpec := { name := "labelForms", fn := fun _ => fun
  | [d1, d2] => { results := [.lit (.bool false)], args := [d1, d2] }
  | _ => none }
def LabelFormsWrongFalsely : Prop := labelFormsRow.holds Try.pinned (OpenSpec.ofChange labelFormsWrong)

/-- 'veillaw1.LabelTable': WHATEVER THE INPUT: true; the input reads as it did. -/
def labelTableSpec : ChangeSpec := { name := "labelTable", fn := fun _ => fun
  | [d] => { results := [.lit (.bool true)], args := [d] }
  | _ => none }
def labelTableRow : OpenClaim := { program := "ytcjilmhaaeibjaa", sum := "af04a5dc2dffe666808781be60b780655cb5ff07070591ff158c8e595007ee03", func := "veil/veillaw1.LabelTable", spec := "labelTable", apart := false }
def LabelTableSaid : Prop := labelTableRow.holds Try.pinned (OpenSpec.ofChange labelTableSpec)

/-- ITS FALSE NEIGHBOUR: 'it returns false'. Refute it at one input. -/
def labelTableWrong : ChangeSpec := { name := "labelTable", fn := fun _ => fun
  | [d] => { results := [.lit (.bool false)], args := [d] }
  | _ => none }
def LabelTableWrongFalsely : Prop := labelTableRow.holds Try.pinned (OpenSpec.ofChange labelTableWrong)

/-- 'veillaw1.LabelDistributes': WHATEVER THE INPUT: true; the input reads as it did. -/
def labelDistributesSpec : ChangeSpec := { name := "labelDistributes", fn := fun _ => fun
  | [d1, d2, d3] => { results := [.lit (.bool true)], args := [d1, d2, d3] }
  | _ => none }
def labelDistributesRow : OpenClaim := { program := "ytcjilmhaaeibjaa", sum := "af04a5dc2dffe666808781be60b780655cb5ff07070591ff158c8e595007ee03", func := "veil/veillaw1.LabelDistributes", spec := "labelDistributes", apart := false }
def LabelDistributesSaid : Prop := labelDistributesRow.holds Try.pinned (OpenSpec.ofChange labelDistributesSpec)

/-- ITS FALSE NEIGHBOUR: 'it returns false'. Refute it at one input. -/
def labelDistributesWrong : ChangeSpec := { name := "labelDistributes", fn := fun _ => fun
  | [d1, d2, d3] => { results := [.lit (.bool false)], args := [d1, d2, d3] }
  | _ => none }
def LabelDistributesWrongFalsely : Prop := labelDistributesRow.holds Try.pinned (OpenSpec.ofChange labelDistributesWrong)

/- THE SECOND FORM. 'bulk': how many values and letters a reading holds, each counted each time it is reached (what is shared counts as often as it is met; a slice's spare places count too). A statement '..UptoSaid' is the law's where the arguments, and the package variables that the reading takes, are together of bulk at most 1048576: NARROWER than '..Said'. Prove '..Said' where nothing that the law and all that it calls make is longer than what came in: it says more and counts as full. Else prove '..UptoSaid'. A law counts once. -/
mutual
def uptoBulk {H : Type} : DataW H → Nat
  | .lit (.string bytes) => bytes.length + 1
  | .lit _ => 1
  | .nil => 1
  | .ptr d => uptoBulk d + 1
  | .slice elems spare => uptoBulkAll elems + uptoBulkAll spare + 1
  | .agg parts => uptoBulkAll parts + 1
  | .iface _ d => uptoBulk d + 1
  | .map entries => uptoBulkEntries entries + 1
  | .held _ => 1
def uptoBulkAll {H : Type} : List (DataW H) → Nat
  | [] => 0
  | d :: r => uptoBulk d + uptoBulkAll r
def uptoBulkEntries {H : Type} : List (Lit × DataW H) → Nat
  | [] => 0
  | x :: r => uptoBulkEntry x + uptoBulkEntries r
def uptoBulkEntry {H : Type} : Lit × DataW H → Nat
  | (.string bytes, d) => bytes.length + uptoBulk d + 1
  | (_, d) => uptoBulk d + 1
 end
def uptoSmall : (H : Type) → List (DataW H) → Bool := fun _ ds => decide (uptoBulkAll ds ≤ 1048576)
def OpenSpec.upto (s : _root_.Go.ChangeSpec) : _root_.Go.OpenSpec := { _root_.Go.OpenSpec.ofChange s with cond := some uptoSmall }

/-- 'veillaw0.VeilNames', WHERE WHAT IT READS IS OF BULK AT MOST 1048576: true; the input reads as it did. -/
def veilNamesUptoRow : OpenClaim := { program := "ytcjilmhaaeibjaa", sum := "af04a5dc2dffe666808781be60b780655cb5ff07070591ff158c8e595007ee03", func := "veil/veillaw0.VeilNames", spec := "veilNames", apart := false, narrowed := true }
def VeilNamesUptoSaid : Prop := veilNamesUptoRow.holds Try.pinned (OpenSpec.upto veilNamesSpec)

/-- 'veillaw1.Labels', WHERE WHAT IT READS IS OF BULK AT MOST 1048576: true; the input reads as it did. -/
def labelsUptoRow : OpenClaim := { program := "ytcjilmhaaeibjaa", sum := "af04a5dc2dffe666808781be60b780655cb5ff07070591ff158c8e595007ee03", func := "veil/veillaw1.Labels", spec := "labels", apart := false, narrowed := true }
def LabelsUptoSaid : Prop := labelsUptoRow.holds Try.pinned (OpenSpec.upto labelsSpec)

/-- 'veillaw1.LabelLattice', WHERE WHAT IT READS IS OF BULK AT MOST 1048576: true; the input reads as it did. -/
def labelLatticeUptoRow : OpenClaim := { program := "ytcjilmhaaeibjaa", sum := "af04a5dc2dffe666808781be60b780655cb5ff07070591ff158c8e595007ee03", func := "veil/veillaw1.LabelLattice", spec := "labelLattice", apart := false, narrowed := true }
def LabelLatticeUptoSaid : Prop := labelLatticeUptoRow.holds Try.pinned (OpenSpec.upto labelLatticeSpec)

/-- 'veillaw1.LabelForms', WHERE WHAT IT READS IS OF BULK AT MOST 1048576: true; the input reads as it did. -/
def labelFormsUptoRow : OpenClaim := { program := "ytcjilmhaaeibjaa", sum := "af04a5dc2dffe666808781be60b780655cb5ff07070591ff158c8e595007ee03", func := "veil/veillaw1.LabelForms", spec := "labelForms", apart := false, narrowed := true }
def LabelFormsUptoSaid : Prop := labelFormsUptoRow.holds Try.pinned (OpenSpec.upto labelFormsSpec)

/-- 'veillaw1.LabelTable', WHERE WHAT IT READS IS OF BULK AT MOST 1048576: true; the input reads as it did. -/
def labelTableUptoRow : OpenClaim := { program := "ytcjilmhaaeibjaa", sum := "af04a5dc2dffe666808781be60b780655cb5ff07070591ff158c8e595007ee03", func := "veil/veillaw1.LabelTable", spec := "labelTable", apart := false, narrowed := true }
def LabelTableUptoSaid : Prop := labelTableUptoRow.holds Try.pinned (OpenSpec.upto labelTableSpec)

/-- 'veillaw1.LabelDistributes', WHERE WHAT IT READS IS OF BULK AT MOST 1048576: true; the input reads as it did. -/
def labelDistributesUptoRow : OpenClaim := { program := "ytcjilmhaaeibjaa", sum := "af04a5dc2dffe666808781be60b780655cb5ff07070591ff158c8e595007ee03", func := "veil/veillaw1.LabelDistributes", spec := "labelDistributes", apart := false, narrowed := true }
def LabelDistributesUptoSaid : Prop := labelDistributesUptoRow.holds Try.pinned (OpenSpec.upto labelDistributesSpec)

end Rows
end Go.Proofs.Ytcjilmhaaeibjaa
