/-
  No cell of these rows narrows 'for every input' (looked for: loops, veiled, ifaces, maps, wideKeys, modest, calm, conditions, laid).
  DERIVED. THE GIVEN ROWS OF THIS SEAT. 13 by the template 'for every input the law returns true; each argument reads behind the call as it read before'; 0 by the template 'total and deterministic' (their statements: YtidedfhlocodgaaTotals.lean).
  GIVEN WITH THE SEED: the statements are not yours to turn. If you find one false, say at which input.
  Laid BY PROGRAM, IN A SANDBOX (cutbox-rows.mjs): the forced cells as the released guide's own fill.sh prints them over the translation 4a1d1e6520c8e752… (all of the seat's roots in one cut). By AI agents, Wed Nov 11 2026. No macro, syntax, notation, axiom, sorry.
-/
import Derived.Test.YtidedfhlocodgaaChecked
import GoSem.Claim
import GoSem.ClaimJoined
import GoSem.ClaimMapViews
import Derived.JoinedTies
import Derived.KernelRfl
namespace Go.Proofs.Ytidedfhlocodgaa
/- THE CELL 'sum', in the pinned program and in every row, IS THE sha256 OF THE DUMP (.gsa) THAT YtidedfhlocodgaaProg.lean LOADS. Nothing in Lean hashes anything: it is a label: what it is worth is what the hold of that sum in a sandbox is worth. -/
noncomputable def Try.pinned : Pinned := { name := "ytidedfhlocodgaa", sum := "4a1d1e6520c8e752ffb96a66b89842e5aaf2ff1b238667d82aa65790a9b8b6f5", checked := Try.checked }
namespace Rows
def none {H : Type} : Left H := { results := [], args := [] }

/-- 'veillaw7.Insts': WHATEVER THE INPUT: true; the input reads as it did. -/
def instsSpec : ChangeSpec := { name := "insts", fn := fun _ => fun
  | [d1, d2, d3] => { results := [.lit (.bool true)], args := [d1, d2, d3] }
  | _ => none }
def instsRow : OpenClaim := { program := "ytidedfhlocodgaa", sum := "4a1d1e6520c8e752ffb96a66b89842e5aaf2ff1b238667d82aa65790a9b8b6f5", func := "veil/veillaw7.Insts", spec := "insts", apart := false }
def InstsSaid : Prop := instsRow.holds Try.pinned (OpenSpec.ofChange instsSpec)

/-- ITS FALSE NEIGHBOUR: 'it returns false'. Refute it at one input. -/
def instsWrong : ChangeSpec := { name := "insts", fn := fun _ => fun
  | [d1, d2, d3] => { results := [.lit (.bool false)], args := [d1, d2, d3] }
  | _ => none }
def InstsWrongFalsely : Prop := instsRow.holds Try.pinned (OpenSpec.ofChange instsWrong)

/-- 'veillaw7.InstForms': WHATEVER THE INPUT: true; the input reads as it did. -/
def instFormsSpec : ChangeSpec := { name := "instForms", fn := fun _ => fun
  | [d1, d2] => { results := [.lit (.bool true)], args := [d1, d2] }
  | _ => none }
def instFormsRow : OpenClaim := { program := "ytidedfhlocodgaa", sum := "4a1d1e6520c8e752ffb96a66b89842e5aaf2ff1b238667d82aa65790a9b8b6f5", func := "veil/veillaw7.InstForms", spec := "instForms", apart := false }
def InstFormsSaid : Prop := instFormsRow.holds Try.pinned (OpenSpec.ofChange instFormsSpec)

/-- ITS FALSE NEIGHBOUR: 'it returns false'. Refute it at one input. -/
def instFormsWrong : ChangeSpec := { name := "instForms", fn := fun _ => fun
  | [d1, d2] => { results := [.lit (.bool false)], args := [d1, d2] }
  | _ => none }
def InstFormsWrongFalsely : Prop := instFormsRow.holds Try.pinned (OpenSpec.ofChange instFormsWrong)

/-- 'veillaw7.InstBack': WHATEVER THE INPUT: true; the input reads as it did. -/
def instBackSpec : ChangeSpec := { name := "instBack", fn := fun _ => fun
  | [d1, d2] => { results := [.lit (.bool true)], args := [d1, d2] }
  | _ => none }
def instBackRow : OpenClaim := { program := "ytidedfhlocodgaa", sum := "4a1d1e6520c8e752ffb96a66b89842e5aaf2ff1b238667d82aa65790a9b8b6f5", func := "veil/veillaw7.InstBack", spec := "instBack", apart := false }
def InstBackSaid : Prop := instBackRow.holds Try.pinned (OpenSpec.ofChange instBackSpec)

/-- ITS FALSE NEIGHBOUR: 'it returns false'. Refute it at one input. -/
def instBackWrong : ChangeSpec := { name := "instBack", fn := fun _ => fun
  | [d1, d2] => { results := [.lit (.bool false)], args := [d1, d2] }
  | _ => none }
def InstBackWrongFalsely : Prop := instBackRow.holds Try.pinned (OpenSpec.ofChange instBackWrong)

/-- 'veillaw7.InstNames': WHATEVER THE INPUT: true; the input reads as it did. -/
def instNamesSpec : ChangeSpec := { name := "instNames", fn := fun _ => fun
  | [d1, d2] => { results := [.lit (.bool true)], args := [d1, d2] }
  | _ => none }
def instNamesRow : OpenClaim := { program := "ytidedfhlocodgaa", sum := "4a1d1e6520c8e752ffb96a66b89842e5aaf2ff1b238667d82aa65790a9b8b6f5", func := "veil/veillaw7.InstNames", spec := "instNames", apart := false }
def InstNamesSaid : Prop := instNamesRow.holds Try.pinned (OpenSpec.ofChange instNamesSpec)

/-- ITS FALSE NEIGHBOUR: 'it returns false'. Refute it at one input. -/
def instNamesWrong : ChangeSpec := { name := "instNames", fn := fun _ => fun
  | [d1, d2] => { results := [.lit (.bool false)], args := [d1, d2] }
  | _ => none }
def InstNamesWrongFalsely : Prop := instNamesRow.holds Try.pinned (OpenSpec.ofChange instNamesWrong)

/-- 'veillaw11.Starts': WHATEVER THE INPUT: true; the input reads as it did. -/
def startsSpec : ChangeSpec := { name := "starts", fn := fun _ => fun
  | [d] => { results := [.lit (.bool true)], args := [d] }
  | _ => none }
def startsRow : OpenClaim := { program := "ytidedfhlocodgaa", sum := "4a1d1e6520c8e752ffb96a66b89842e5aaf2ff1b238667d82aa65790a9b8b6f5", func := "veil/veillaw11.Starts", spec := "starts", apart := false }
def StartsSaid : Prop := startsRow.holds Try.pinned (OpenSpec.ofChange startsSpec)

/-- ITS FALSE NEIGHBOUR: 'it returns false'. Refute it at one input. -/
def startsWrong : ChangeSpec := { name := "starts", fn := fun _ => fun
  | [d] => { results := [.lit (.bool false)], args := [d] }
  | _ => none }
def StartsWrongFalsely : Prop := startsRow.holds Try.pinned (OpenSpec.ofChange startsWrong)

/-- 'veillaw11.StartForms': WHATEVER THE INPUT: true; the input reads as it did. -/
def startFormsSpec : ChangeSpec := { name := "startForms", fn := fun _ => fun
  | [d1, d2] => { results := [.lit (.bool true)], args := [d1, d2] }
  | _ => none }
def startFormsRow : OpenClaim := { program := "ytidedfhlocodgaa", sum := "4a1d1e6520c8e752ffb96a66b89842e5aaf2ff1b238667d82aa65790a9b8b6f5", func := "veil/veillaw11.StartForms", spec := "startForms", apart := false }
def StartFormsSaid : Prop := startFormsRow.holds Try.pinned (OpenSpec.ofChange startFormsSpec)

/-- ITS FALSE NEIGHBOUR: 'it returns false'. Refute it at one input. -/
def startFormsWrong : ChangeSpec := { name := "startForms", fn := fun _ => fun
  | [d1, d2] => { results := [.lit (.bool false)], args := [d1, d2] }
  | _ => none }
def StartFormsWrongFalsely : Prop := startFormsRow.holds Try.pinned (OpenSpec.ofChange startFormsWrong)

/-- 'veillaw11.StartClears': WHATEVER THE INPUT: true; the input reads as it did. -/
def startClearsSpec : ChangeSpec := { name := "startClears", fn := fun _ => fun
  | [d] => { results := [.lit (.bool true)], args := [d] }
  | _ => none }
def startClearsRow : OpenClaim := { program := "ytidedfhlocodgaa", sum := "4a1d1e6520c8e752ffb96a66b89842e5aaf2ff1b238667d82aa65790a9b8b6f5", func := "veil/veillaw11.StartClears", spec := "startClears", apart := false }
def StartClearsSaid : Prop := startClearsRow.holds Try.pinned (OpenSpec.ofChange startClearsSpec)

/-- ITS FALSE NEIGHBOUR: 'it returns false'. Refute it at one input. -/
def startClearsWrong : ChangeSpec := { name := "startClears", fn := fun _ => fun
  | [d] => { results := [.lit (.bool false)], args := [d] }
  | _ => none }
def StartClearsWrongFalsely : Prop := startClearsRow.holds Try.pinned (OpenSpec.ofChange startClearsWrong)

/-- 'veillaw11.StartApart': WHATEVER THE INPUT: true; the input reads as it did. -/
def startApartSpec : ChangeSpec := { name := "startApart", fn := fun _ => fun
  | [d] => { results := [.lit (.bool true)], args := [d] }
  | _ => none }
def startApartRow : OpenClaim := { program := "ytidedfhlocodgaa", sum := "4a1d1e6520c8e752ffb96a66b89842e5aaf2ff1b238667d82aa65790a9b8b6f5", func := "veil/veillaw11.StartApart", spec := "startApart", apart := false }
def StartApartSaid : Prop := startApartRow.holds Try.pinned (OpenSpec.ofChange startApartSpec)

/-- ITS FALSE NEIGHBOUR: 'it returns false'. Refute it at one input. -/
def startApartWrong : ChangeSpec := { name := "startApart", fn := fun _ => fun
  | [d] => { results := [.lit (.bool false)], args := [d] }
  | _ => none }
def StartApartWrongFalsely : Prop := startApartRow.holds Try.pinned (OpenSpec.ofChange startApartWrong)

/-- 'veillaw8.Progs': WHATEVER THE INPUT: true; the input reads as it did. -/
def progsSpec : ChangeSpec := { name := "progs", fn := fun _ => fun
  | [d1, d2] => { results := [.lit (.bool true)], args := [d1, d2] }
  | _ => none }
def progsRow : OpenClaim := { program := "ytidedfhlocodgaa", sum := "4a1d1e6520c8e752ffb96a66b89842e5aaf2ff1b238667d82aa65790a9b8b6f5", func := "veil/veillaw8.Progs", spec := "progs", apart := false }
def ProgsSaid : Prop := progsRow.holds Try.pinned (OpenSpec.ofChange progsSpec)

/-- ITS FALSE NEIGHBOUR: 'it returns false'. Refute it at one input. -/
def progsWrong : ChangeSpec := { name := "progs", fn := fun _ => fun
  | [d1, d2] => { results := [.lit (.bool false)], args := [d1, d2] }
  | _ => none }
def ProgsWrongFalsely : Prop := progsRow.holds Try.pinned (OpenSpec.ofChange progsWrong)

/-- 'veillaw8.ProgBack': WHATEVER THE INPUT: true; the input reads as it did. -/
def progBackSpec : ChangeSpec := { name := "progBack", fn := fun _ => fun
  | [d1, d2] => { results := [.lit (.bool true)], args := [d1, d2] }
  | _ => none }
def progBackRow : OpenClaim := { program := "ytidedfhlocodgaa", sum := "4a1d1e6520c8e752ffb96a66b89842e5aaf2ff1b238667d82aa65790a9b8b6f5", func := "veil/veillaw8.ProgBack", spec := "progBack", apart := false }
def ProgBackSaid : Prop := progBackRow.holds Try.pinned (OpenSpec.ofChange progBackSpec)

/-- ITS FALSE NEIGHBOUR: 'it returns false'. Refute it at one input. -/
def progBackWrong : ChangeSpec := { name := "progBack", fn := fun _ => fun
  | [d1, d2] => { results := [.lit (.bool false)], args := [d1, d2] }
  | _ => none }
def ProgBackWrongFalsely : Prop := progBackRow.holds Try.pinned (OpenSpec.ofChange progBackWrong)

/-- 'veillaw8.ProgForms': WHATEVER THE INPUT: true; the input reads as it did. -/
def progFormsSpec : ChangeSpec := { name := "progForms", fn := fun _ => fun
  | [d1, d2] => { results := [.lit (.bool true)], args := [d1, d2] }
  | _ => none }
def progFormsRow : OpenClaim := { program := "ytidedfhlocodgaa", sum := "4a1d1e6520c8e752ffb96a66b89842e5aaf2ff1b238667d82aa65790a9b8b6f5", func := "veil/veillaw8.ProgForms", spec := "progForms", apart := false }
def ProgFormsSaid : Prop := progFormsRow.holds Try.pinned (OpenSpec.ofChange progFormsSpec)

/-- ITS FALSE NEIGHBOUR: 'it returns false'. Refute it at one input. -/
def progFormsWrong : ChangeSpec := { name := "progForms", fn := fun _ => fun
  | [d1, d2] => { results := [.lit (.bool false)], args := [d1, d2] }
  | _ => none }
def ProgFormsWrongFalsely : Prop := progFormsRow.holds Try.pinned (OpenSpec.ofChange progFormsWrong)

/-- 'veillaw8.ProgUnlike': WHATEVER THE INPUT: true; the input reads as it did. -/
def progUnlikeSpec : ChangeSpec := { name := "progUnlike", fn := fun _ => fun
  | [d1, d2, d3] => { results := [.lit (.bool true)], args := [d1, d2, d3] }
  | _ => none }
def progUnlikeRow : OpenClaim := { program := "ytidedfhlocodgaa", sum := "4a1d1e6520c8e752ffb96a66b89842e5aaf2ff1b238667d82aa65790a9b8b6f5", func := "veil/veillaw8.ProgUnlike", spec := "progUnlike", apart := false }
def ProgUnlikeSaid : Prop := progUnlikeRow.holds Try.pinned (OpenSpec.ofChange progUnlikeSpec)

/-- ITS FALSE NEIGHBOUR: 'it returns false'. Refute it at one input. -/
def progUnlikeWrong : ChangeSpec := { name := "progUnlike", fn := fun _ => fun
  | [d1, d2, d3] => { results := [.lit (.bool false)], args := [d1, d2, d3] }
  | _ => none }
def ProgUnlikeWrongFalsely : Prop := progUnlikeRow.holds Try.pinned (OpenSpec.ofChange progUnlikeWrong)

/-- 'veillaw8.ProgParts': WHATEVER THE INPUT: true; the input reads as it did. -/
def progPartsSpec : ChangeSpec := { name := "progParts", fn := fun _ => fun
  | [d1, d2] => { results := [.lit (.bool true)], args := [d1, d2] }
  | _ => none }
def progPartsRow : OpenClaim := { program := "ytidedfhlocodgaa", sum := "4a1d1e6520c8e752ffb96a66b89842e5aaf2ff1b238667d82aa65790a9b8b6f5", func := "veil/veillaw8.ProgParts", spec := "progParts", apart := false }
def ProgPartsSaid : Prop := progPartsRow.holds Try.pinned (OpenSpec.ofChange progPartsSpec)

/-- ITS FALSE NEIGHBOUR: 'it returns false'. Refute it at one input. -/
def progPartsWrong : ChangeSpec := { name := "progParts", fn := fun _ => fun
  | [d1, d2] => { results := [.lit (.bool false)], args := [d1, d2] }
  | _ => none }
def ProgPartsWrongFalsely : Prop := progPartsRow.holds Try.pinned (OpenSpec.ofChange progPartsWrong)

/- THE SECOND FORM. 'bulk': how many values and letters a reading holds, each counted each time it is reached (what is shared counts as often as it is met; a slice's spare places count too). A statement '..UptoSaid' is the law's where the arguments, and the package variables that the reading takes, are together of bulk at most 1048576: NARROWER than '..Said'. Prove '..Said' where nothing that the law and all that it calls make is longer than what came in: it says more and counts as full. Else prove '..UptoSaid'. A law counts once. -/
mutual
def uptoBulk {H : Type} : DataW H → Nat
  | .lit (.string bytes) => bytes.length + 1
  | .lit _ => 1
  | .nil => 1
  | .ptr d => uptoBulk d + 1
  | .slice elems spare => uptoBulkAll elems + uptoBulkAll spare + 1
  | .agg parts => uptoBulkAll parts + 1
  | .iface _ d => uptoBulk d + 1
  | .map entries => uptoBulkEntries entries + 1
  | .held _ => 1
def uptoBulkAll {H : Type} : List (DataW H) → Nat
  | [] => 0
  | d :: r => uptoBulk d + uptoBulkAll r
def uptoBulkEntries {H : Type} : List (Lit × DataW H) → Nat
  | [] => 0
  | x :: r => uptoBulkEntry x + uptoBulkEntries r
def uptoBulkEntry {H : Type} : Lit × DataW H → Nat
  | (.string bytes, d) => bytes.length + uptoBulk d + 1
  | (_, d) => uptoBulk d + 1
 end
def uptoSmall : (H : Type) → List (DataW H) → Bool := fun _ ds => decide (uptoBulkAll ds ≤ 1048576)
def OpenSpec.upto (s : _root_.Go.ChangeSpec) : _root_.Go.OpenSpec := { _root_.Go.OpenSpec.ofChange s with cond := some uptoSmall }

/-- 'veillaw7.Insts', WHERE WHAT IT READS IS OF BULK AT MOST 1048576: true; the input reads as it did. -/
def instsUptoRow : OpenClaim := { program := "ytidedfhlocodgaa", sum := "4a1d1e6520c8e752ffb96a66b89842e5aaf2ff1b238667d82aa65790a9b8b6f5", func := "veil/veillaw7.Insts", spec := "insts", apart := false, narrowed := true }
def InstsUptoSaid : Prop := instsUptoRow.holds Try.pinned (OpenSpec.upto instsSpec)

/-- 'veillaw7.InstForms', WHERE WHAT IT READS IS OF BULK AT MOST 1048576: true; the input reads as it did. -/
def instFormsUptoRow : OpenClaim := { program := "ytidedfhlocodgaa", sum := "4a1d1e6520c8e752ffb96a66b89842e5aaf2ff1b238667d82aa65790a9b8b6f5", func := "veil/veillaw7.InstForms", spec := "instForms", apart := false, narrowed := true }
def InstFormsUptoSaid : Prop := instFormsUptoRow.holds Try.pinned (OpenSpec.upto instFormsSpec)

/-- 'veillaw7.InstBack', WHERE WHAT IT READS IS OF BULK AT MOST 1048576: true; the input reads as it did. -/
def instBackUptoRow : OpenClaim := { program := "ytidedfhlocodgaa", sum := "4a1d1e6520c8e752ffb96a66b89842e5aaf2ff1b238667d82aa65790a9b8b6f5", func := "veil/veillaw7.InstBack", spec := "instBack", apart := false, narrowed := true }
def InstBackUptoSaid : Prop := instBackUptoRow.holds Try.pinned (OpenSpec.upto instBackSpec)

/-- 'veillaw7.InstNames', WHERE WHAT IT READS IS OF BULK AT MOST 1048576: true; the input reads as it did. -/
def instNamesUptoRow : OpenClaim := { program := "ytidedfhlocodgaa", sum := "4a1d1e6520c8e752ffb96a66b89842e5aaf2ff1b238667d82aa65790a9b8b6f5", func := "veil/veillaw7.InstNames", spec := "instNames", apart := false, narrowed := true }
def InstNamesUptoSaid : Prop := instNamesUptoRow.holds Try.pinned (OpenSpec.upto instNamesSpec)

/-- 'veillaw11.Starts', WHERE WHAT IT READS IS OF BULK AT MOST 1048576: true; the input reads as it did. -/
def startsUptoRow : OpenClaim := { program := "ytidedfhlocodgaa", sum := "4a1d1e6520c8e752ffb96a66b89842e5aaf2ff1b238667d82aa65790a9b8b6f5", func := "veil/veillaw11.Starts", spec := "starts", apart := false, narrowed := true }
def StartsUptoSaid : Prop := startsUptoRow.holds Try.pinned (OpenSpec.upto startsSpec)

/-- 'veillaw11.StartForms', WHERE WHAT IT READS IS OF BULK AT MOST 1048576: true; the input reads as it did. -/
def startFormsUptoRow : OpenClaim := { program := "ytidedfhlocodgaa", sum := "4a1d1e6520c8e752ffb96a66b89842e5aaf2ff1b238667d82aa65790a9b8b6f5", func := "veil/veillaw11.StartForms", spec := "startForms", apart := false, narrowed := true }
def StartFormsUptoSaid : Prop := startFormsUptoRow.holds Try.pinned (OpenSpec.upto startFormsSpec)

/-- 'veillaw11.StartClears', WHERE WHAT IT READS IS OF BULK AT MOST 1048576: true; the input reads as it did. -/
def startClearsUptoRow : OpenClaim := { program := "ytidedfhlocodgaa", sum := "4a1d1e6520c8e752ffb96a66b89842e5aaf2ff1b238667d82aa65790a9b8b6f5", func := "veil/veillaw11.StartClears", spec := "startClears", apart := false, narrowed := true }
def StartClearsUptoSaid : Prop := startClearsUptoRow.holds Try.pinned (OpenSpec.upto startClearsSpec)

/-- 'veillaw11.StartApart', WHERE WHAT IT READS IS OF BULK AT MOST 1048576: true; the input reads as it did. -/
def startApartUptoRow : OpenClaim := { program := "ytidedfhlocodgaa", sum := "4a1d1e6520c8e752ffb96a66b89842e5aaf2ff1b238667d82aa65790a9b8b6f5", func := "veil/veillaw11.StartApart", spec := "startApart", apart := false, narrowed := true }
def StartApartUptoSaid : Prop := startApartUptoRow.holds Try.pinned (OpenSpec.upto startApartSpec)

/-- 'veillaw8.Progs', WHERE WHAT IT READS IS OF BULK AT MOST 1048576: true; the input reads as it did. -/
def progsUptoRow : OpenClaim := { program := "ytidedfhlocodgaa", sum := "4a1d1e6520c8e752ffb96a66b89842e5aaf2ff1b238667d82aa65790a9b8b6f5", func := "veil/veillaw8.Progs", spec := "progs", apart := false, narrowed := true }
def ProgsUptoSaid : Prop := progsUptoRow.holds Try.pinned (OpenSpec.upto progsSpec)

/-- 'veillaw8.ProgBack', WHERE WHAT IT READS IS OF BULK AT MOST 1048576: true; the input reads as it did. -/
def progBackUptoRow : OpenClaim := { program := "ytidedfhlocodgaa", sum := "4a1d1e6520c8e752ffb96a66b89842e5aaf2ff1b238667d82aa65790a9b8b6f5", func := "veil/veillaw8.ProgBack", spec := "progBack", apart := false, narrowed := true }
def ProgBackUptoSaid : Prop := progBackUptoRow.holds Try.pinned (OpenSpec.upto progBackSpec)

/-- 'veillaw8.ProgForms', WHERE WHAT IT READS IS OF BULK AT MOST 1048576: true; the input reads as it did. -/
def progFormsUptoRow : OpenClaim := { program := "ytidedfhlocodgaa", sum := "4a1d1e6520c8e752ffb96a66b89842e5aaf2ff1b238667d82aa65790a9b8b6f5", func := "veil/veillaw8.ProgForms", spec := "progForms", apart := false, narrowed := true }
def ProgFormsUptoSaid : Prop := progFormsUptoRow.holds Try.pinned (OpenSpec.upto progFormsSpec)

/-- 'veillaw8.ProgUnlike', WHERE WHAT IT READS IS OF BULK AT MOST 1048576: true; the input reads as it did. -/
def progUnlikeUptoRow : OpenClaim := { program := "ytidedfhlocodgaa", sum := "4a1d1e6520c8e752ffb96a66b89842e5aaf2ff1b238667d82aa65790a9b8b6f5", func := "veil/veillaw8.ProgUnlike", spec := "progUnlike", apart := false, narrowed := true }
def ProgUnlikeUptoSaid : Prop := progUnlikeUptoRow.holds Try.pinned (OpenSpec.upto progUnlikeSpec)

/-- 'veillaw8.ProgParts', WHERE WHAT IT READS IS OF BULK AT MOST 1048576: true; the input reads as it did. -/
def progPartsUptoRow : OpenClaim := { program := "ytidedfhlocodgaa", sum := "4a1d1e6520c8e752ffb96a66b89842e5aaf2ff1b238667d82aa65790a9b8b6f5", func := "veil/veillaw8.ProgParts", spec := "progParts", apart := false, narrowed := true }
def ProgPartsUptoSaid : Prop := progPartsUptoRow.holds Try.pinned (OpenSpec.upto progPartsSpec)

end Rows
end Go.Proofs.Ytidedfhlocodgaa
