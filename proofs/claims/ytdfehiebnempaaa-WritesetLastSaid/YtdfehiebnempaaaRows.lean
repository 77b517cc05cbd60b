/-
  No cell of these rows narrows 'for every input' (looked for: loops, veiled, ifaces, maps, wideKeys, modest, calm, conditions, laid).
  DERIVED. THE GIVEN ROWS OF THIS SEAT. 16 by the template 'for every input the law returns true; each argument reads behind the call as it read before'; 0 by the template 'total and deterministic' (their statements: YtdfehiebnempaaaTotals.lean).
  GIVEN WITH THE SEED: the statements are not yours to turn. If you find one false, say at which input.
  Laid BY PROGRAM, IN A SANDBOX (cutbox-rows.mjs): the forced cells as the released guide's own fill.sh prints them over the translation a6affd24a306abc2… (all of the seat's roots in one cut). By AI agents, Wed Nov 11 2026. No macro, syntax, notation, axiom, sorry.
-/
import Derived.Test.YtdfehiebnempaaaChecked
import GoSem.Claim
import GoSem.ClaimJoined
import GoSem.ClaimMapViews
import Derived.JoinedTies
import Derived.KernelRfl
namespace Go.Proofs.Ytdfehiebnempaaa
/- THE CELL 'sum', in the pinned program and in every row, IS THE sha256 OF THE DUMP (.gsa) THAT YtdfehiebnempaaaProg.lean LOADS. Nothing in Lean hashes anything: it is a label: what it is worth is what the hold of that sum in a sandbox is worth. -/
noncomputable def Try.pinned : Pinned := { name := "ytdfehiebnempaaa", sum := "a6affd24a306abc229d1ac93136b869894013f300d898acda03aecbe9399b9a1", checked := Try.checked }
namespace Rows
def none {H : Type} : Left H := { results := [], args := [] }

/-- 'veillaw4.Arenas': WHATEVER THE INPUT: true; the input reads as it did. -/
def arenasSpec : ChangeSpec := { name := "arenas", fn := fun _ => fun
  | [d1, d2, d3, d4, d5] => { results := [.lit (.bool true)], args := [d1, d2, d3, d4, d5] }
  | _ => none }
def arenasRow : OpenClaim := { program := "ytdfehiebnempaaa", sum := "a6affd24a306abc229d1ac93136b869894013f300d898acda03aecbe9399b9a1", func := "veil/veillaw4.Arenas", spec := "arenas", unfollowed := true, recurses := true, apart := false }
def ArenasSaid : Prop := arenasRow.holds Try.pinned (OpenSpec.ofChange arenasSpec)

/-- ITS FALSE NEIGHBOUR: 'it returns false'. Refute it at one input. -/
def arenasWrong : ChangeSpec := { name := "arenas", fn := fun _ => fun
  | [d1, d2, d3, d4, d5] => { results := [.lit (.bool false)], args := [d1, d2, d3, d4, d5] }
  | _ => none }
def ArenasWrongFalsely : Prop := arenasRow.holds Try.pinned (OpenSpec.ofChange arenasWrong)

/-- 'veillaw4.ArenaOne': WHATEVER THE INPUT: true; the input reads as it did. -/
def arenaOneSpec : ChangeSpec := { name := "arenaOne", fn := fun _ => fun
  | [d1, d2, d3, d4, d5, d6] => { results := [.lit (.bool true)], args := [d1, d2, d3, d4, d5, d6] }
  | _ => none }
def arenaOneRow : OpenClaim := { program := "ytdfehiebnempaaa", sum := "a6affd24a306abc229d1ac93136b869894013f300d898acda03aecbe9399b9a1", func := "veil/veillaw4.ArenaOne", spec := "arenaOne", unfollowed := true, recurses := true, apart := false }
def ArenaOneSaid : Prop := arenaOneRow.holds Try.pinned (OpenSpec.ofChange arenaOneSpec)

/-- ITS FALSE NEIGHBOUR: 'it returns false'. Refute it at one input. -/
def arenaOneWrong : ChangeSpec := { name := "arenaOne", fn := fun _ => fun
  | [d1, d2, d3, d4, d5, d6] => { results := [.lit (.bool false)], args := [d1, d2, d3, d4, d5, d6] }
  | _ => none }
def ArenaOneWrongFalsely : Prop := arenaOneRow.holds Try.pinned (OpenSpec.ofChange arenaOneWrong)

/-- 'veillaw4.ArenaForms': WHATEVER THE INPUT: true; the input reads as it did. -/
def arenaFormsSpec : ChangeSpec := { name := "arenaForms", fn := fun _ => fun
  | [d1, d2] => { results := [.lit (.bool true)], args := [d1, d2] }
  | _ => none }
def arenaFormsRow : OpenClaim := { program := "ytdfehiebnempaaa", sum := "a6affd24a306abc229d1ac93136b869894013f300d898acda03aecbe9399b9a1", func := "veil/veillaw4.ArenaForms", spec := "arenaForms", unfollowed := true, recurses := true, apart := false }
def ArenaFormsSaid : Prop := arenaFormsRow.holds Try.pinned (OpenSpec.ofChange arenaFormsSpec)

/-- ITS FALSE NEIGHBOUR: 'it returns false'. Refute it at one input. -/
def arenaFormsWrong : ChangeSpec := { name := "arenaForms", fn := fun _ => fun
  | [d1, d2] => { results := [.lit (.bool false)], args := [d1, d2] }
  | _ => none }
def ArenaFormsWrongFalsely : Prop := arenaFormsRow.holds Try.pinned (OpenSpec.ofChange arenaFormsWrong)

/-- 'veillaw4.ArenaNew': WHATEVER THE INPUT: true; the input reads as it did. -/
def arenaNewSpec : ChangeSpec := { name := "arenaNew", fn := fun _ => fun
  | [d] => { results := [.lit (.bool true)], args := [d] }
  | _ => none }
def arenaNewRow : OpenClaim := { program := "ytdfehiebnempaaa", sum := "a6affd24a306abc229d1ac93136b869894013f300d898acda03aecbe9399b9a1", func := "veil/veillaw4.ArenaNew", spec := "arenaNew", unfollowed := true, recurses := true, apart := false }
def ArenaNewSaid : Prop := arenaNewRow.holds Try.pinned (OpenSpec.ofChange arenaNewSpec)

/-- ITS FALSE NEIGHBOUR: 'it returns false'. Refute it at one input. -/
def arenaNewWrong : ChangeSpec := { name := "arenaNew", fn := fun _ => fun
  | [d] => { results := [.lit (.bool false)], args := [d] }
  | _ => none }
def ArenaNewWrongFalsely : Prop := arenaNewRow.holds Try.pinned (OpenSpec.ofChange arenaNewWrong)

/-- 'veillaw4.ArenaRow': WHATEVER THE INPUT: true; the input reads as it did. -/
def arenaRowSpec : ChangeSpec := { name := "arenaRow", fn := fun _ => fun
  | [d] => { results := [.lit (.bool true)], args := [d] }
  | _ => none }
def arenaRowRow : OpenClaim := { program := "ytdfehiebnempaaa", sum := "a6affd24a306abc229d1ac93136b869894013f300d898acda03aecbe9399b9a1", func := "veil/veillaw4.ArenaRow", spec := "arenaRow", unfollowed := true, recurses := true, apart := false }
def ArenaRowSaid : Prop := arenaRowRow.holds Try.pinned (OpenSpec.ofChange arenaRowSpec)

/-- ITS FALSE NEIGHBOUR: 'it returns false'. Refute it at one input. -/
def arenaRowWrong : ChangeSpec := { name := "arenaRow", fn := fun _ => fun
  | [d] => { results := [.lit (.bool false)], args := [d] }
  | _ => none }
def ArenaRowWrongFalsely : Prop := arenaRowRow.holds Try.pinned (OpenSpec.ofChange arenaRowWrong)

/-- 'veillaw9.Readsets': WHATEVER THE INPUT: true; the input reads as it did. -/
def readsetsSpec : ChangeSpec := { name := "readsets", fn := fun _ => fun
  | [d1, d2, d3, d4] => { results := [.lit (.bool true)], args := [d1, d2, d3, d4] }
  | _ => none }
def readsetsRow : OpenClaim := { program := "ytdfehiebnempaaa", sum := "a6affd24a306abc229d1ac93136b869894013f300d898acda03aecbe9399b9a1", func := "veil/veillaw9.Readsets", spec := "readsets", unfollowed := true, recurses := true, apart := false }
def ReadsetsSaid : Prop := readsetsRow.holds Try.pinned (OpenSpec.ofChange readsetsSpec)

/-- ITS FALSE NEIGHBOUR: 'it returns false'. Refute it at one input. -/
def readsetsWrong : ChangeSpec := { name := "readsets", fn := fun _ => fun
  | [d1, d2, d3, d4] => { results := [.lit (.bool false)], args := [d1, d2, d3, d4] }
  | _ => none }
def ReadsetsWrongFalsely : Prop := readsetsRow.holds Try.pinned (OpenSpec.ofChange readsetsWrong)

/-- 'veillaw9.ReadsetGood': WHATEVER THE INPUT: true; the input reads as it did. -/
def readsetGoodSpec : ChangeSpec := { name := "readsetGood", fn := fun _ => fun
  | [d1, d2, d3, d4] => { results := [.lit (.bool true)], args := [d1, d2, d3, d4] }
  | _ => none }
def readsetGoodRow : OpenClaim := { program := "ytdfehiebnempaaa", sum := "a6affd24a306abc229d1ac93136b869894013f300d898acda03aecbe9399b9a1", func := "veil/veillaw9.ReadsetGood", spec := "readsetGood", unfollowed := true, recurses := true, apart := false }
def ReadsetGoodSaid : Prop := readsetGoodRow.holds Try.pinned (OpenSpec.ofChange readsetGoodSpec)

/-- ITS FALSE NEIGHBOUR: 'it returns false'. Refute it at one input. -/
def readsetGoodWrong : ChangeSpec := { name := "readsetGood", fn := fun _ => fun
  | [d1, d2, d3, d4] => { results := [.lit (.bool false)], args := [d1, d2, d3, d4] }
  | _ => none }
def ReadsetGoodWrongFalsely : Prop := readsetGoodRow.holds Try.pinned (OpenSpec.ofChange readsetGoodWrong)

/-- 'veillaw9.ReadsetForms': WHATEVER THE INPUT: true; the input reads as it did. -/
def readsetFormsSpec : ChangeSpec := { name := "readsetForms", fn := fun _ => fun
  | [d1, d2] => { results := [.lit (.bool true)], args := [d1, d2] }
  | _ => none }
def readsetFormsRow : OpenClaim := { program := "ytdfehiebnempaaa", sum := "a6affd24a306abc229d1ac93136b869894013f300d898acda03aecbe9399b9a1", func := "veil/veillaw9.ReadsetForms", spec := "readsetForms", unfollowed := true, recurses := true, apart := false }
def ReadsetFormsSaid : Prop := readsetFormsRow.holds Try.pinned (OpenSpec.ofChange readsetFormsSpec)

/-- ITS FALSE NEIGHBOUR: 'it returns false'. Refute it at one input. -/
def readsetFormsWrong : ChangeSpec := { name := "readsetForms", fn := fun _ => fun
  | [d1, d2] => { results := [.lit (.bool false)], args := [d1, d2] }
  | _ => none }
def ReadsetFormsWrongFalsely : Prop := readsetFormsRow.holds Try.pinned (OpenSpec.ofChange readsetFormsWrong)

/-- 'veillaw9.ReadsetFirst': WHATEVER THE INPUT: true; the input reads as it did. -/
def readsetFirstSpec : ChangeSpec := { name := "readsetFirst", fn := fun _ => fun
  | [d] => { results := [.lit (.bool true)], args := [d] }
  | _ => none }
def readsetFirstRow : OpenClaim := { program := "ytdfehiebnempaaa", sum := "a6affd24a306abc229d1ac93136b869894013f300d898acda03aecbe9399b9a1", func := "veil/veillaw9.ReadsetFirst", spec := "readsetFirst", unfollowed := true, recurses := true, apart := false }
def ReadsetFirstSaid : Prop := readsetFirstRow.holds Try.pinned (OpenSpec.ofChange readsetFirstSpec)

/-- ITS FALSE NEIGHBOUR: 'it returns false'. Refute it at one input. -/
def readsetFirstWrong : ChangeSpec := { name := "readsetFirst", fn := fun _ => fun
  | [d] => { results := [.lit (.bool false)], args := [d] }
  | _ => none }
def ReadsetFirstWrongFalsely : Prop := readsetFirstRow.holds Try.pinned (OpenSpec.ofChange readsetFirstWrong)

/-- 'veillaw9.ReadsetTurned': WHATEVER THE INPUT: true; the input reads as it did. -/
def readsetTurnedSpec : ChangeSpec := { name := "readsetTurned", fn := fun _ => fun
  | [d1, d2, d3, d4] => { results := [.lit (.bool true)], args := [d1, d2, d3, d4] }
  | _ => none }
def readsetTurnedRow : OpenClaim := { program := "ytdfehiebnempaaa", sum := "a6affd24a306abc229d1ac93136b869894013f300d898acda03aecbe9399b9a1", func := "veil/veillaw9.ReadsetTurned", spec := "readsetTurned", unfollowed := true, recurses := true, apart := false }
def ReadsetTurnedSaid : Prop := readsetTurnedRow.holds Try.pinned (OpenSpec.ofChange readsetTurnedSpec)

/-- ITS FALSE NEIGHBOUR: 'it returns false'. Refute it at one input. -/
def readsetTurnedWrong : ChangeSpec := { name := "readsetTurned", fn := fun _ => fun
  | [d1, d2, d3, d4] => { results := [.lit (.bool false)], args := [d1, d2, d3, d4] }
  | _ => none }
def ReadsetTurnedWrongFalsely : Prop := readsetTurnedRow.holds Try.pinned (OpenSpec.ofChange readsetTurnedWrong)

/-- 'veillaw9.ReadsetParts': WHATEVER THE INPUT: true; the input reads as it did. -/
def readsetPartsSpec : ChangeSpec := { name := "readsetParts", fn := fun _ => fun
  | [d1, d2, d3, d4] => { results := [.lit (.bool true)], args := [d1, d2, d3, d4] }
  | _ => none }
def readsetPartsRow : OpenClaim := { program := "ytdfehiebnempaaa", sum := "a6affd24a306abc229d1ac93136b869894013f300d898acda03aecbe9399b9a1", func := "veil/veillaw9.ReadsetParts", spec := "readsetParts", unfollowed := true, recurses := true, apart := false }
def ReadsetPartsSaid : Prop := readsetPartsRow.holds Try.pinned (OpenSpec.ofChange readsetPartsSpec)

/-- ITS FALSE NEIGHBOUR: 'it returns false'. Refute it at one input. -/
def readsetPartsWrong : ChangeSpec := { name := "readsetParts", fn := fun _ => fun
  | [d1, d2, d3, d4] => { results := [.lit (.bool false)], args := [d1, d2, d3, d4] }
  | _ => none }
def ReadsetPartsWrongFalsely : Prop := readsetPartsRow.holds Try.pinned (OpenSpec.ofChange readsetPartsWrong)

/-- 'veillaw10.Writesets': WHATEVER THE INPUT: true; the input reads as it did. -/
def writesetsSpec : ChangeSpec := { name := "writesets", fn := fun _ => fun
  | [d1, d2, d3, d4] => { results := [.lit (.bool true)], args := [d1, d2, d3, d4] }
  | _ => none }
def writesetsRow : OpenClaim := { program := "ytdfehiebnempaaa", sum := "a6affd24a306abc229d1ac93136b869894013f300d898acda03aecbe9399b9a1", func := "veil/veillaw10.Writesets", spec := "writesets", inPlace := ["slices.overlaps[veil/api.Write]"], unfollowed := true, recurses := true, apart := false }
def WritesetsSaid : Prop := writesetsRow.holds Try.pinned (OpenSpec.ofChange writesetsSpec)

/-- ITS FALSE NEIGHBOUR: 'it returns false'. Refute it at one input. -/
def writesetsWrong : ChangeSpec := { name := "writesets", fn := fun _ => fun
  | [d1, d2, d3, d4] => { results := [.lit (.bool false)], args := [d1, d2, d3, d4] }
  | _ => none }
def WritesetsWrongFalsely : Prop := writesetsRow.holds Try.pinned (OpenSpec.ofChange writesetsWrong)

/-- 'veillaw10.WritesetLast': WHATEVER THE INPUT: true; the input reads as it did. -/
def writesetLastSpec : ChangeSpec := { name := "writesetLast", fn := fun _ => fun
  | [d] => { results := [.lit (.bool true)], args := [d] }
  | _ => none }
def writesetLastRow : OpenClaim := { program := "ytdfehiebnempaaa", sum := "a6affd24a306abc229d1ac93136b869894013f300d898acda03aecbe9399b9a1", func := "veil/veillaw10.WritesetLast", spec := "writesetLast", inPlace := ["slices.overlaps[veil/api.Write]"], unfollowed := true, recurses := true, apart := false }
def WritesetLastSaid : Prop := writesetLastRow.holds Try.pinned (OpenSpec.ofChange writesetLastSpec)

/-- ITS FALSE NEIGHBOUR: 'it returns false'. Refute it at one input. -/
def writesetLastWrong : ChangeSpec := { name := "writesetLast", fn := fun _ => fun
  | [d] => { results := [.lit (.bool false)], args := [d] }
  | _ => none }
def WritesetLastWrongFalsely : Prop := writesetLastRow.holds Try.pinned (OpenSpec.ofChange writesetLastWrong)

/-- 'veillaw10.WritesetForms': WHATEVER THE INPUT: true; the input reads as it did. -/
def writesetFormsSpec : ChangeSpec := { name := "writesetForms", fn := fun _ => fun
  | [d1, d2] => { results := [.lit (.bool true)], args := [d1, d2] }
  | _ => none }
def writesetFormsRow : OpenClaim := { program := "ytdfehiebnempaaa", sum := "a6affd24a306abc229d1ac93136b869894013f300d898acda03aecbe9399b9a1", func := "veil/veillaw10.WritesetForms", spec := "writesetForms", inPlace := ["slices.overlaps[veil/api.Write]"], unfollowed := true, recurses := true, apart := false }
def WritesetFormsSaid : Prop := writesetFormsRow.holds Try.pinned (OpenSpec.ofChange writesetFormsSpec)

/-- ITS FALSE NEIGHBOUR: 'it returns false'. Refute it at one input. -/
def writesetFormsWrong : ChangeSpec := { name := "writesetForms", fn := fun _ => fun
  | [d1, d2] => { results := [.lit (.bool false)], args := [d1, d2] }
  | _ => none }
def WritesetFormsWrongFalsely : Prop := writesetFormsRow.holds Try.pinned (OpenSpec.ofChange writesetFormsWrong)

/-- 'veillaw10.WritesetLevels': WHATEVER THE INPUT: true; the input reads as it did. -/
def writesetLevelsSpec : ChangeSpec := { name := "writesetLevels", fn := fun _ => fun
  | [d1, d2] => { results := [.lit (.bool true)], args := [d1, d2] }
  | _ => none }
def writesetLevelsRow : OpenClaim := { program := "ytdfehiebnempaaa", sum := "a6affd24a306abc229d1ac93136b869894013f300d898acda03aecbe9399b9a1", func := "veil/veillaw10.WritesetLevels", spec := "writesetLevels", inPlace := ["slices.overlaps[veil/api.Write]"], unfollowed := true, recurses := true, apart := false }
def WritesetLevelsSaid : Prop := writesetLevelsRow.holds Try.pinned (OpenSpec.ofChange writesetLevelsSpec)

/-- ITS FALSE NEIGHBOUR: 'it returns false'. Refute it at one input. -/
def writesetLevelsWrong : ChangeSpec := { name := "writesetLevels", fn := fun _ => fun
  | [d1, d2] => { results := [.lit (.bool false)], args := [d1, d2] }
  | _ => none }
def WritesetLevelsWrongFalsely : Prop := writesetLevelsRow.holds Try.pinned (OpenSpec.ofChange writesetLevelsWrong)

/-- 'veillaw10.WritesetRows': WHATEVER THE INPUT: true; the input reads as it did. -/
def writesetRowsSpec : ChangeSpec := { name := "writesetRows", fn := fun _ => fun
  | [d1, d2, d3] => { results := [.lit (.bool true)], args := [d1, d2, d3] }
  | _ => none }
def writesetRowsRow : OpenClaim := { program := "ytdfehiebnempaaa", sum := "a6affd24a306abc229d1ac93136b869894013f300d898acda03aecbe9399b9a1", func := "veil/veillaw10.WritesetRows", spec := "writesetRows", inPlace := ["slices.overlaps[veil/api.Write]"], unfollowed := true, recurses := true, apart := false }
def WritesetRowsSaid : Prop := writesetRowsRow.holds Try.pinned (OpenSpec.ofChange writesetRowsSpec)

/-- ITS FALSE NEIGHBOUR: 'it returns false'. Refute it at one input. -/
def writesetRowsWrong : ChangeSpec := { name := "writesetRows", fn := fun _ => fun
  | [d1, d2, d3] => { results := [.lit (.bool false)], args := [d1, d2, d3] }
  | _ => none }
def WritesetRowsWrongFalsely : Prop := writesetRowsRow.holds Try.pinned (OpenSpec.ofChange writesetRowsWrong)

/- THE SECOND FORM. 'bulk': how many values and letters a reading holds, each counted each time it is reached (what is shared counts as often as it is met; a slice's spare places count too). A statement '..UptoSaid' is the law's where the arguments, and the package variables that the reading takes, are together of bulk at most 1048576: NARROWER than '..Said'. Prove '..Said' where nothing that the law and all that it calls make is longer than what came in: it says more and counts as full. Else prove '..UptoSaid'. A law counts once. -/
mutual
def uptoBulk {H : Type} : DataW H → Nat
  | .lit (.string bytes) => bytes.length + 1
  | .lit _ => 1
  | .nil => 1
  | .ptr d => uptoBulk d + 1
  | .slice elems spare => uptoBulkAll elems + uptoBulkAll spare + 1
  | .agg parts => uptoBulkAll parts + 1
  | .iface _ d => uptoBulk d + 1
  | .map entries => uptoBulkEntries entries + 1
  | .held _ => 1
def uptoBulkAll {H : Type} : List (DataW H) → Nat
  | [] => 0
  | d :: r => uptoBulk d + uptoBulkAll r
def uptoBulkEntries {H : Type} : List (Lit × DataW H) → Nat
  | [] => 0
  | x :: r => uptoBulkEntry x + uptoBulkEntries r
def uptoBulkEntry {H : Type} : Lit × DataW H → Nat
  | (.string bytes, d) => bytes.length + uptoBulk d + 1
  | (_, d) => uptoBulk d + 1
 end
def uptoSmall : (H : Type) → List (DataW H) → Bool := fun _ ds => decide (uptoBulkAll ds ≤ 1048576)
def OpenSpec.upto (s : _root_.Go.ChangeSpec) : _root_.Go.OpenSpec := { _root_.Go.OpenSpec.ofChange s with cond := some uptoSmall }

/-- 'veillaw4.Arenas', WHERE WHAT IT READS IS OF BULK AT MOST 1048576: true; the input reads as it did. -/
def arenasUptoRow : OpenClaim := { program := "ytdfehiebnempaaa", sum := "a6affd24a306abc229d1ac93136b869894013f300d898acda03aecbe9399b9a1", func := "veil/veillaw4.Arenas", spec := "arenas", unfollowed := true, recurses := true, apart := false, narrowed := true }
def ArenasUptoSaid : Prop := arenasUptoRow.holds Try.pinned (OpenSpec.upto arenasSpec)

/-- 'veillaw4.ArenaOne', WHERE WHAT IT READS IS OF BULK AT MOST 1048576: true; the input reads as it did. -/
def arenaOneUptoRow : OpenClaim := { program := "ytdfehiebnempaaa", sum := "a6affd24a306abc229d1ac93136b869894013f300d898acda03aecbe9399b9a1", func := "veil/veillaw4.ArenaOne", spec := "arenaOne", unfollowed := true, recurses := true, apart := false, narrowed := true }
def ArenaOneUptoSaid : Prop := arenaOneUptoRow.holds Try.pinned (OpenSpec.upto arenaOneSpec)

/-- 'veillaw4.ArenaForms', WHERE WHAT IT READS IS OF BULK AT MOST 1048576: true; the input reads as it did. -/
def arenaFormsUptoRow : OpenClaim := { program := "ytdfehiebnempaaa", sum := "a6affd24a306abc229d1ac93136b869894013f300d898acda03aecbe9399b9a1", func := "veil/veillaw4.ArenaForms", spec := "arenaForms", unfollowed := true, recurses := true, apart := false, narrowed := true }
def ArenaFormsUptoSaid : Prop := arenaFormsUptoRow.holds Try.pinned (OpenSpec.upto arenaFormsSpec)

/-- 'veillaw4.ArenaNew', WHERE WHAT IT READS IS OF BULK AT MOST 1048576: true; the input reads as it did. -/
def arenaNewUptoRow : OpenClaim := { program := "ytdfehiebnempaaa", sum := "a6affd24a306abc229d1ac93136b869894013f300d898acda03aecbe9399b9a1", func := "veil/veillaw4.ArenaNew", spec := "arenaNew", unfollowed := true, recurses := true, apart := false, narrowed := true }
def ArenaNewUptoSaid : Prop := arenaNewUptoRow.holds Try.pinned (OpenSpec.upto arenaNewSpec)

/-- 'veillaw4.ArenaRow', WHERE WHAT IT READS IS OF BULK AT MOST 1048576: true; the input reads as it did. -/
def arenaRowUptoRow : OpenClaim := { program := "ytdfehiebnempaaa", sum := "a6affd24a306abc229d1ac93136b869894013f300d898acda03aecbe9399b9a1", func := "veil/veillaw4.ArenaRow", spec := "arenaRow", unfollowed := true, recurses := true, apart := false, narrowed := true }
def ArenaRowUptoSaid : Prop := arenaRowUptoRow.holds Try.pinned (OpenSpec.upto arenaRowSpec)

/-- 'veillaw9.Readsets', WHERE WHAT IT READS IS OF BULK AT MOST 1048576: true; the input reads as it did. -/
def readsetsUptoRow : OpenClaim := { program := "ytdfehiebnempaaa", sum := "a6affd24a306abc229d1ac93136b869894013f300d898acda03aecbe9399b9a1", func := "veil/veillaw9.Readsets", spec := "readsets", unfollowed := true, recurses := true, apart := false, narrowed := true }
def ReadsetsUptoSaid : Prop := readsetsUptoRow.holds Try.pinned (OpenSpec.upto readsetsSpec)

/-- 'veillaw9.ReadsetGood', WHERE WHAT IT READS IS OF BULK AT MOST 1048576: true; the input reads as it did. -/
def readsetGoodUptoRow : OpenClaim := { program := "ytdfehiebnempaaa", sum := "a6affd24a306abc229d1ac93136b869894013f300d898acda03aecbe9399b9a1", func := "veil/veillaw9.ReadsetGood", spec := "readsetGood", unfollowed := true, recurses := true, apart := false, narrowed := true }
def ReadsetGoodUptoSaid : Prop := readsetGoodUptoRow.holds Try.pinned (OpenSpec.upto readsetGoodSpec)

/-- 'veillaw9.ReadsetForms', WHERE WHAT IT READS IS OF BULK AT MOST 1048576: true; the input reads as it did. -/
def readsetFormsUptoRow : OpenClaim := { program := "ytdfehiebnempaaa", sum := "a6affd24a306abc229d1ac93136b869894013f300d898acda03aecbe9399b9a1", func := "veil/veillaw9.ReadsetForms", spec := "readsetForms", unfollowed := true, recurses := true, apart := false, narrowed := true }
def ReadsetFormsUptoSaid : Prop := readsetFormsUptoRow.holds Try.pinned (OpenSpec.upto readsetFormsSpec)

/-- 'veillaw9.ReadsetFirst', WHERE WHAT IT READS IS OF BULK AT MOST 1048576: true; the input reads as it did. -/
def readsetFirstUptoRow : OpenClaim := { program := "ytdfehiebnempaaa", sum := "a6affd24a306abc229d1ac93136b869894013f300d898acda03aecbe9399b9a1", func := "veil/veillaw9.ReadsetFirst", spec := "readsetFirst", unfollowed := true, recurses := true, apart := false, narrowed := true }
def ReadsetFirstUptoSaid : Prop := readsetFirstUptoRow.holds Try.pinned (OpenSpec.upto readsetFirstSpec)

/-- 'veillaw9.ReadsetTurned', WHERE WHAT IT READS IS OF BULK AT MOST 1048576: true; the input reads as it did. -/
def readsetTurnedUptoRow : OpenClaim := { program := "ytdfehiebnempaaa", sum := "a6affd24a306abc229d1ac93136b869894013f300d898acda03aecbe9399b9a1", func := "veil/veillaw9.ReadsetTurned", spec := "readsetTurned", unfollowed := true, recurses := true, apart := false, narrowed := true }
def ReadsetTurnedUptoSaid : Prop := readsetTurnedUptoRow.holds Try.pinned (OpenSpec.upto readsetTurnedSpec)

/-- 'veillaw9.ReadsetParts', WHERE WHAT IT READS IS OF BULK AT MOST 1048576: true; the input reads as it did. -/
def readsetPartsUptoRow : OpenClaim := { program := "ytdfehiebnempaaa", sum := "a6affd24a306abc229d1ac93136b869894013f300d898acda03aecbe9399b9a1", func := "veil/veillaw9.ReadsetParts", spec := "readsetParts", unfollowed := true, recurses := true, apart := false, narrowed := true }
def ReadsetPartsUptoSaid : Prop := readsetPartsUptoRow.holds Try.pinned (OpenSpec.upto readsetPartsSpec)

/-- 'veillaw10.Writesets', WHERE WHAT IT READS IS OF BULK AT MOST 1048576: true; the input reads as it did. -/
def writesetsUptoRow : OpenClaim := { program := "ytdfehiebnempaaa", sum := "a6affd24a306abc229d1ac93136b869894013f300d898acda03aecbe9399b9a1", func := "veil/veillaw10.Writesets", spec := "writesets", inPlace := ["slices.overlaps[veil/api.Write]"], unfollowed := true, recurses := true, apart := false, narrowed := true }
def WritesetsUptoSaid : Prop := writesetsUptoRow.holds Try.pinned (OpenSpec.upto writesetsSpec)

/-- 'veillaw10.WritesetLast', WHERE WHAT IT READS IS OF BULK AT MOST 1048576: true; the input reads as it did. -/
def writesetLastUptoRow : OpenClaim := { program := "ytdfehiebnempaaa", sum := "a6affd24a306abc229d1ac93136b869894013f300d898acda03aecbe9399b9a1", func := "veil/veillaw10.WritesetLast", spec := "writesetLast", inPlace := ["slices.overlaps[veil/api.Write]"], unfollowed := true, recurses := true, apart := false, narrowed := true }
def WritesetLastUptoSaid : Prop := writesetLastUptoRow.holds Try.pinned (OpenSpec.upto writesetLastSpec)

/-- 'veillaw10.WritesetForms', WHERE WHAT IT READS IS OF BULK AT MOST 1048576: true; the input reads as it did. -/
def writesetFormsUptoRow : OpenClaim := { program := "ytdfehiebnempaaa", sum := "a6affd24a306abc229d1ac93136b869894013f300d898acda03aecbe9399b9a1", func := "veil/veillaw10.WritesetForms", spec := "writesetForms", inPlace := ["slices.overlaps[veil/api.Write]"], unfollowed := true, recurses := true, apart := false, narrowed := true }
def WritesetFormsUptoSaid : Prop := writesetFormsUptoRow.holds Try.pinned (OpenSpec.upto writesetFormsSpec)

/-- 'veillaw10.WritesetLevels', WHERE WHAT IT READS IS OF BULK AT MOST 1048576: true; the input reads as it did. -/
def writesetLevelsUptoRow : OpenClaim := { program := "ytdfehiebnempaaa", sum := "a6affd24a306abc229d1ac93136b869894013f300d898acda03aecbe9399b9a1", func := "veil/veillaw10.WritesetLevels", spec := "writesetLevels", inPlace := ["slices.overlaps[veil/api.Write]"], unfollowed := true, recurses := true, apart := false, narrowed := true }
def WritesetLevelsUptoSaid : Prop := writesetLevelsUptoRow.holds Try.pinned (OpenSpec.upto writesetLevelsSpec)

/-- 'veillaw10.WritesetRows', WHERE WHAT IT READS IS OF BULK AT MOST 1048576: true; the input reads as it did. -/
def writesetRowsUptoRow : OpenClaim := { program := "ytdfehiebnempaaa", sum := "a6affd24a306abc229d1ac93136b869894013f300d898acda03aecbe9399b9a1", func := "veil/veillaw10.WritesetRows", spec := "writesetRows", inPlace := ["slices.overlaps[veil/api.Write]"], unfollowed := true, recurses := true, apart := false, narrowed := true }
def WritesetRowsUptoSaid : Prop := writesetRowsUptoRow.holds Try.pinned (OpenSpec.upto writesetRowsSpec)

end Rows
end Go.Proofs.Ytdfehiebnempaaa
