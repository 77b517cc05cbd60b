/-
  No cell of these rows narrows 'for every input' (looked for: loops, veiled, ifaces, maps, wideKeys, modest, calm, conditions, laid).
  DERIVED. THE GIVEN ROWS OF THIS SEAT. 15 by the template 'for every input the law returns true; each argument reads behind the call as it read before'; 0 by the template 'total and deterministic' (their statements: YtnhodnfnlnccaaaGreatTotals.lean).
  GIVEN WITH THE SEED: the statements are not yours to turn. If you find one false, say at which input.
  Laid BY PROGRAM, IN A SANDBOX (cutbox-rows.mjs): the forced cells as the released guide's own fill.sh prints them over the translation a1075d70e25b7c16… (all of the seat's roots in one cut). By AI agents, Wed Nov 11 2026. No macro, syntax, notation, axiom, sorry.
-/
import Derived.Test.YtnhodnfnlnccaaaGreatChecked
import GoSem.Claim
import GoSem.ClaimJoined
import GoSem.ClaimMapViews
import Derived.JoinedTies
import Derived.KernelRfl
namespace Go.Proofs.YtnhodnfnlnccaaaGreat
/- THE CELL 'sum', in the pinned program and in every row, IS THE sha256 OF THE DUMP (.gsa) THAT YtnhodnfnlnccaaaGreatProg.lean LOADS. Nothing in Lean hashes anything: it is a label: what it is worth is what the hold of that sum in a sandbox is worth. -/
noncomputable def Tryz.pinned : Pinned := { name := "ytnhodnfnlnccaaagreat", sum := "a1075d70e25b7c16c42ec2ec06d15e95d5ff5b3dd933d62b0b5d28eacf42a9e5", checked := Tryz.checked }
namespace Rows
def none {H : Type} : Left H := { results := [], args := [] }

/-- 'veillaw12.Machs': WHATEVER THE INPUT: true; the input reads as it did. -/
def machsSpec : ChangeSpec := { name := "machs", fn := fun _ => fun
  | [d1, d2, d3, d4, d5] => { results := [.lit (.bool true)], args := [d1, d2, d3, d4, d5] }
  | _ => none }
def machsRow : OpenClaim := { program := "ytnhodnfnlnccaaagreat", sum := "a1075d70e25b7c16c42ec2ec06d15e95d5ff5b3dd933d62b0b5d28eacf42a9e5", func := "veil/veillaw12.Machs", spec := "machs", unfollowed := true, recurses := true, apart := false }
def MachsSaid : Prop := machsRow.holds Tryz.pinned (OpenSpec.ofChange machsSpec)

/-- ITS FALSE NEIGHBOUR: 'it returns false'. Refute it at one input. -/
def machsWrong : ChangeSpec := { name := "machs", fn := fun _ => fun
  | [d1, d2, d3, d4, d5] => { results := [.lit (.bool false)], args := [d1, d2, d3, d4, d5] }
  | _ => none }
def MachsWrongFalsely : Prop := machsRow.holds Tryz.pinned (OpenSpec.ofChange machsWrong)

/-- 'veillaw12.MachForms': WHATEVER THE INPUT: true; the input reads as it did. -/
def machFormsSpec : ChangeSpec := { name := "machForms", fn := fun _ => fun
  | [d1, d2] => { results := [.lit (.bool true)], args := [d1, d2] }
  | _ => none }
def machFormsRow : OpenClaim := { program := "ytnhodnfnlnccaaagreat", sum := "a1075d70e25b7c16c42ec2ec06d15e95d5ff5b3dd933d62b0b5d28eacf42a9e5", func := "veil/veillaw12.MachForms", spec := "machForms", unfollowed := true, recurses := true, apart := false }
def MachFormsSaid : Prop := machFormsRow.holds Tryz.pinned (OpenSpec.ofChange machFormsSpec)

/-- ITS FALSE NEIGHBOUR: 'it returns false'. Refute it at one input. -/
def machFormsWrong : ChangeSpec := { name := "machForms", fn := fun _ => fun
  | [d1, d2] => { results := [.lit (.bool false)], args := [d1, d2] }
  | _ => none }
def MachFormsWrongFalsely : Prop := machFormsRow.holds Tryz.pinned (OpenSpec.ofChange machFormsWrong)

/-- 'veillaw12.MachNews': WHATEVER THE INPUT: true; the input reads as it did. -/
def machNewsSpec : ChangeSpec := { name := "machNews", fn := fun _ => fun
  | [d1, d2] => { results := [.lit (.bool true)], args := [d1, d2] }
  | _ => none }
def machNewsRow : OpenClaim := { program := "ytnhodnfnlnccaaagreat", sum := "a1075d70e25b7c16c42ec2ec06d15e95d5ff5b3dd933d62b0b5d28eacf42a9e5", func := "veil/veillaw12.MachNews", spec := "machNews", unfollowed := true, recurses := true, apart := false }
def MachNewsSaid : Prop := machNewsRow.holds Tryz.pinned (OpenSpec.ofChange machNewsSpec)

/-- ITS FALSE NEIGHBOUR: 'it returns false'. Refute it at one input. -/
def machNewsWrong : ChangeSpec := { name := "machNews", fn := fun _ => fun
  | [d1, d2] => { results := [.lit (.bool false)], args := [d1, d2] }
  | _ => none }
def MachNewsWrongFalsely : Prop := machNewsRow.holds Tryz.pinned (OpenSpec.ofChange machNewsWrong)

/-- 'veillaw12.MachTells': WHATEVER THE INPUT: true; the input reads as it did. -/
def machTellsSpec : ChangeSpec := { name := "machTells", fn := fun _ => fun
  | [d1, d2, d3, d4, d5] => { results := [.lit (.bool true)], args := [d1, d2, d3, d4, d5] }
  | _ => none }
def machTellsRow : OpenClaim := { program := "ytnhodnfnlnccaaagreat", sum := "a1075d70e25b7c16c42ec2ec06d15e95d5ff5b3dd933d62b0b5d28eacf42a9e5", func := "veil/veillaw12.MachTells", spec := "machTells", unfollowed := true, recurses := true, apart := false }
def MachTellsSaid : Prop := machTellsRow.holds Tryz.pinned (OpenSpec.ofChange machTellsSpec)

/-- ITS FALSE NEIGHBOUR: 'it returns false'. Refute it at one input. -/
def machTellsWrong : ChangeSpec := { name := "machTells", fn := fun _ => fun
  | [d1, d2, d3, d4, d5] => { results := [.lit (.bool false)], args := [d1, d2, d3, d4, d5] }
  | _ => none }
def MachTellsWrongFalsely : Prop := machTellsRow.holds Tryz.pinned (OpenSpec.ofChange machTellsWrong)

/-- 'veillaw12.MachSessions': WHATEVER THE INPUT: true; the input reads as it did. -/
def machSessionsSpec : ChangeSpec := { name := "machSessions", fn := fun _ => fun
  | [d1, d2] => { results := [.lit (.bool true)], args := [d1, d2] }
  | _ => none }
def machSessionsRow : OpenClaim := { program := "ytnhodnfnlnccaaagreat", sum := "a1075d70e25b7c16c42ec2ec06d15e95d5ff5b3dd933d62b0b5d28eacf42a9e5", func := "veil/veillaw12.MachSessions", spec := "machSessions", unfollowed := true, recurses := true, apart := false }
def MachSessionsSaid : Prop := machSessionsRow.holds Tryz.pinned (OpenSpec.ofChange machSessionsSpec)

/-- ITS FALSE NEIGHBOUR: 'it returns false'. Refute it at one input. -/
def machSessionsWrong : ChangeSpec := { name := "machSessions", fn := fun _ => fun
  | [d1, d2] => { results := [.lit (.bool false)], args := [d1, d2] }
  | _ => none }
def MachSessionsWrongFalsely : Prop := machSessionsRow.holds Tryz.pinned (OpenSpec.ofChange machSessionsWrong)

/-- 'veillaw12.MachNew': WHATEVER THE INPUT: true; the input reads as it did. -/
def machNewSpec : ChangeSpec := { name := "machNew", fn := fun _ => fun
  | [d] => { results := [.lit (.bool true)], args := [d] }
  | _ => none }
def machNewRow : OpenClaim := { program := "ytnhodnfnlnccaaagreat", sum := "a1075d70e25b7c16c42ec2ec06d15e95d5ff5b3dd933d62b0b5d28eacf42a9e5", func := "veil/veillaw12.MachNew", spec := "machNew", unfollowed := true, recurses := true, apart := false }
def MachNewSaid : Prop := machNewRow.holds Tryz.pinned (OpenSpec.ofChange machNewSpec)

/-- ITS FALSE NEIGHBOUR: 'it returns false'. Refute it at one input. -/
def machNewWrong : ChangeSpec := { name := "machNew", fn := fun _ => fun
  | [d] => { results := [.lit (.bool false)], args := [d] }
  | _ => none }
def MachNewWrongFalsely : Prop := machNewRow.holds Tryz.pinned (OpenSpec.ofChange machNewWrong)

/-- 'veillaw17.Calcs': WHATEVER THE INPUT: true; the input reads as it did. -/
def calcsSpec : ChangeSpec := { name := "calcs", fn := fun _ => fun
  | [d1, d2] => { results := [.lit (.bool true)], args := [d1, d2] }
  | _ => none }
def calcsRow : OpenClaim := { program := "ytnhodnfnlnccaaagreat", sum := "a1075d70e25b7c16c42ec2ec06d15e95d5ff5b3dd933d62b0b5d28eacf42a9e5", func := "veil/veillaw17.Calcs", spec := "calcs", unfollowed := true, recurses := true, apart := false }
def CalcsSaid : Prop := calcsRow.holds Tryz.pinned (OpenSpec.ofChange calcsSpec)

/-- ITS FALSE NEIGHBOUR: 'it returns false'. Refute it at one input. -/
def calcsWrong : ChangeSpec := { name := "calcs", fn := fun _ => fun
  | [d1, d2] => { results := [.lit (.bool false)], args := [d1, d2] }
  | _ => none }
def CalcsWrongFalsely : Prop := calcsRow.holds Tryz.pinned (OpenSpec.ofChange calcsWrong)

/-- 'veillaw17.CalcTells': WHATEVER THE INPUT: true; the input reads as it did. -/
def calcTellsSpec : ChangeSpec := { name := "calcTells", fn := fun _ => fun
  | [d1, d2] => { results := [.lit (.bool true)], args := [d1, d2] }
  | _ => none }
def calcTellsRow : OpenClaim := { program := "ytnhodnfnlnccaaagreat", sum := "a1075d70e25b7c16c42ec2ec06d15e95d5ff5b3dd933d62b0b5d28eacf42a9e5", func := "veil/veillaw17.CalcTells", spec := "calcTells", unfollowed := true, recurses := true, apart := false }
def CalcTellsSaid : Prop := calcTellsRow.holds Tryz.pinned (OpenSpec.ofChange calcTellsSpec)

/-- ITS FALSE NEIGHBOUR: 'it returns false'. Refute it at one input. -/
def calcTellsWrong : ChangeSpec := { name := "calcTells", fn := fun _ => fun
  | [d1, d2] => { results := [.lit (.bool false)], args := [d1, d2] }
  | _ => none }
def CalcTellsWrongFalsely : Prop := calcTellsRow.holds Tryz.pinned (OpenSpec.ofChange calcTellsWrong)

/-- 'veillaw17.CalcZero': WHATEVER THE INPUT: true; the input reads as it did. -/
def calcZeroSpec : ChangeSpec := { name := "calcZero", fn := fun _ => fun
  | [d1, d2, d3] => { results := [.lit (.bool true)], args := [d1, d2, d3] }
  | _ => none }
def calcZeroRow : OpenClaim := { program := "ytnhodnfnlnccaaagreat", sum := "a1075d70e25b7c16c42ec2ec06d15e95d5ff5b3dd933d62b0b5d28eacf42a9e5", func := "veil/veillaw17.CalcZero", spec := "calcZero", unfollowed := true, recurses := true, apart := false }
def CalcZeroSaid : Prop := calcZeroRow.holds Tryz.pinned (OpenSpec.ofChange calcZeroSpec)

/-- ITS FALSE NEIGHBOUR: 'it returns false'. Refute it at one input. -/
def calcZeroWrong : ChangeSpec := { name := "calcZero", fn := fun _ => fun
  | [d1, d2, d3] => { results := [.lit (.bool false)], args := [d1, d2, d3] }
  | _ => none }
def CalcZeroWrongFalsely : Prop := calcZeroRow.holds Tryz.pinned (OpenSpec.ofChange calcZeroWrong)

/-- 'veillaw17.CalcForms': WHATEVER THE INPUT: true; the input reads as it did. -/
def calcFormsSpec : ChangeSpec := { name := "calcForms", fn := fun _ => fun
  | [d1, d2] => { results := [.lit (.bool true)], args := [d1, d2] }
  | _ => none }
def calcFormsRow : OpenClaim := { program := "ytnhodnfnlnccaaagreat", sum := "a1075d70e25b7c16c42ec2ec06d15e95d5ff5b3dd933d62b0b5d28eacf42a9e5", func := "veil/veillaw17.CalcForms", spec := "calcForms", unfollowed := true, recurses := true, apart := false }
def CalcFormsSaid : Prop := calcFormsRow.holds Tryz.pinned (OpenSpec.ofChange calcFormsSpec)

/-- ITS FALSE NEIGHBOUR: 'it returns false'. Refute it at one input. -/
def calcFormsWrong : ChangeSpec := { name := "calcForms", fn := fun _ => fun
  | [d1, d2] => { results := [.lit (.bool false)], args := [d1, d2] }
  | _ => none }
def CalcFormsWrongFalsely : Prop := calcFormsRow.holds Tryz.pinned (OpenSpec.ofChange calcFormsWrong)

/-- 'veillaw17.CalcRow': WHATEVER THE INPUT: true; the input reads as it did. -/
def calcRowSpec : ChangeSpec := { name := "calcRow", fn := fun _ => fun
  | [d] => { results := [.lit (.bool true)], args := [d] }
  | _ => none }
def calcRowRow : OpenClaim := { program := "ytnhodnfnlnccaaagreat", sum := "a1075d70e25b7c16c42ec2ec06d15e95d5ff5b3dd933d62b0b5d28eacf42a9e5", func := "veil/veillaw17.CalcRow", spec := "calcRow", unfollowed := true, recurses := true, apart := false }
def CalcRowSaid : Prop := calcRowRow.holds Tryz.pinned (OpenSpec.ofChange calcRowSpec)

/-- ITS FALSE NEIGHBOUR: 'it returns false'. Refute it at one input. -/
def calcRowWrong : ChangeSpec := { name := "calcRow", fn := fun _ => fun
  | [d] => { results := [.lit (.bool false)], args := [d] }
  | _ => none }
def CalcRowWrongFalsely : Prop := calcRowRow.holds Tryz.pinned (OpenSpec.ofChange calcRowWrong)

/-- 'veillaw16.Storings': WHATEVER THE INPUT: true; the input reads as it did. -/
def storingsSpec : ChangeSpec := { name := "storings", fn := fun _ => fun
  | [d1, d2] => { results := [.lit (.bool true)], args := [d1, d2] }
  | _ => none }
def storingsRow : OpenClaim := { program := "ytnhodnfnlnccaaagreat", sum := "a1075d70e25b7c16c42ec2ec06d15e95d5ff5b3dd933d62b0b5d28eacf42a9e5", func := "veil/veillaw16.Storings", spec := "storings", inPlace := ["slices.overlaps[veil/api.Write]"], unfollowed := true, recurses := true, apart := false }
def StoringsSaid : Prop := storingsRow.holds Tryz.pinned (OpenSpec.ofChange storingsSpec)

/-- ITS FALSE NEIGHBOUR: 'it returns false'. Refute it at one input. -/
def storingsWrong : ChangeSpec := { name := "storings", fn := fun _ => fun
  | [d1, d2] => { results := [.lit (.bool false)], args := [d1, d2] }
  | _ => none }
def StoringsWrongFalsely : Prop := storingsRow.holds Tryz.pinned (OpenSpec.ofChange storingsWrong)

/-- 'veillaw16.StoreKeeps': WHATEVER THE INPUT: true; the input reads as it did. -/
def storeKeepsSpec : ChangeSpec := { name := "storeKeeps", fn := fun _ => fun
  | [d1, d2] => { results := [.lit (.bool true)], args := [d1, d2] }
  | _ => none }
def storeKeepsRow : OpenClaim := { program := "ytnhodnfnlnccaaagreat", sum := "a1075d70e25b7c16c42ec2ec06d15e95d5ff5b3dd933d62b0b5d28eacf42a9e5", func := "veil/veillaw16.StoreKeeps", spec := "storeKeeps", inPlace := ["slices.overlaps[veil/api.Write]"], unfollowed := true, recurses := true, apart := false }
def StoreKeepsSaid : Prop := storeKeepsRow.holds Tryz.pinned (OpenSpec.ofChange storeKeepsSpec)

/-- ITS FALSE NEIGHBOUR: 'it returns false'. Refute it at one input. -/
def storeKeepsWrong : ChangeSpec := { name := "storeKeeps", fn := fun _ => fun
  | [d1, d2] => { results := [.lit (.bool false)], args := [d1, d2] }
  | _ => none }
def StoreKeepsWrongFalsely : Prop := storeKeepsRow.holds Tryz.pinned (OpenSpec.ofChange storeKeepsWrong)

/-- 'veillaw16.StoreForms': WHATEVER THE INPUT: true; the input reads as it did. -/
def storeFormsSpec : ChangeSpec := { name := "storeForms", fn := fun _ => fun
  | [d1, d2] => { results := [.lit (.bool true)], args := [d1, d2] }
  | _ => none }
def storeFormsRow : OpenClaim := { program := "ytnhodnfnlnccaaagreat", sum := "a1075d70e25b7c16c42ec2ec06d15e95d5ff5b3dd933d62b0b5d28eacf42a9e5", func := "veil/veillaw16.StoreForms", spec := "storeForms", inPlace := ["slices.overlaps[veil/api.Write]"], unfollowed := true, recurses := true, apart := false }
def StoreFormsSaid : Prop := storeFormsRow.holds Tryz.pinned (OpenSpec.ofChange storeFormsSpec)

/-- ITS FALSE NEIGHBOUR: 'it returns false'. Refute it at one input. -/
def storeFormsWrong : ChangeSpec := { name := "storeForms", fn := fun _ => fun
  | [d1, d2] => { results := [.lit (.bool false)], args := [d1, d2] }
  | _ => none }
def StoreFormsWrongFalsely : Prop := storeFormsRow.holds Tryz.pinned (OpenSpec.ofChange storeFormsWrong)

/-- 'veillaw16.StoreLast': WHATEVER THE INPUT: true; the input reads as it did. -/
def storeLastSpec : ChangeSpec := { name := "storeLast", fn := fun _ => fun
  | [d] => { results := [.lit (.bool true)], args := [d] }
  | _ => none }
def storeLastRow : OpenClaim := { program := "ytnhodnfnlnccaaagreat", sum := "a1075d70e25b7c16c42ec2ec06d15e95d5ff5b3dd933d62b0b5d28eacf42a9e5", func := "veil/veillaw16.StoreLast", spec := "storeLast", inPlace := ["slices.overlaps[veil/api.Write]"], unfollowed := true, recurses := true, apart := false }
def StoreLastSaid : Prop := storeLastRow.holds Tryz.pinned (OpenSpec.ofChange storeLastSpec)

/-- ITS FALSE NEIGHBOUR: 'it returns false'. Refute it at one input. -/
def storeLastWrong : ChangeSpec := { name := "storeLast", fn := fun _ => fun
  | [d] => { results := [.lit (.bool false)], args := [d] }
  | _ => none }
def StoreLastWrongFalsely : Prop := storeLastRow.holds Tryz.pinned (OpenSpec.ofChange storeLastWrong)

/- THE SECOND FORM. 'bulk': how many values and letters a reading holds, each counted each time it is reached (what is shared counts as often as it is met; a slice's spare places count too). A statement '..UptoSaid' is the law's where the arguments, and the package variables that the reading takes, are together of bulk at most 1048576: NARROWER than '..Said'. Prove '..Said' where nothing that the law and all that it calls make is longer than what came in: it says more and counts as full. Else prove '..UptoSaid'. A law counts once. -/
mutual
def uptoBulk {H : Type} : DataW H → Nat
  | .lit (.string bytes) => bytes.length + 1
  | .lit _ => 1
  | .nil => 1
  | .ptr d => uptoBulk d + 1
  | .slice elems spare => uptoBulkAll elems + uptoBulkAll spare + 1
  | .agg parts => uptoBulkAll parts + 1
  | .iface _ d => uptoBulk d + 1
  | .map entries => uptoBulkEntries entries + 1
  | .held _ => 1
def uptoBulkAll {H : Type} : List (DataW H) → Nat
  | [] => 0
  | d :: r => uptoBulk d + uptoBulkAll r
def uptoBulkEntries {H : Type} : List (Lit × DataW H) → Nat
  | [] => 0
  | x :: r => uptoBulkEntry x + uptoBulkEntries r
def uptoBulkEntry {H : Type} : Lit × DataW H → Nat
  | (.string bytes, d) => bytes.length + uptoBulk d + 1
  | (_, d) => uptoBulk d + 1
 end
def uptoSmall : (H : Type) → List (DataW H) → Bool := fun _ ds => decide (uptoBulkAll ds ≤ 1048576)
def OpenSpec.upto (s : _root_.Go.ChangeSpec) : _root_.Go.OpenSpec := { _root_.Go.OpenSpec.ofChange s with cond := some uptoSmall }

/-- 'veillaw12.Machs', WHERE WHAT IT READS IS OF BULK AT MOST 1048576: true; the input reads as it did. -/
def machsUptoRow : OpenClaim := { program := "ytnhodnfnlnccaaagreat", sum := "a1075d70e25b7c16c42ec2ec06d15e95d5ff5b3dd933d62b0b5d28eacf42a9e5", func := "veil/veillaw12.Machs", spec := "machs", unfollowed := true, recurses := true, apart := false, narrowed := true }
def MachsUptoSaid : Prop := machsUptoRow.holds Tryz.pinned (OpenSpec.upto machsSpec)

/-- 'veillaw12.MachForms', WHERE WHAT IT READS IS OF BULK AT MOST 1048576: true; the input reads as it did. -/
def machFormsUptoRow : OpenClaim := { program := "ytnhodnfnlnccaaagreat", sum := "a1075d70e25b7c16c42ec2ec06d15e95d5ff5b3dd933d62b0b5d28eacf42a9e5", func := "veil/veillaw12.MachForms", spec := "machForms", unfollowed := true, recurses := true, apart := false, narrowed := true }
def MachFormsUptoSaid : Prop := machFormsUptoRow.holds Tryz.pinned (OpenSpec.upto machFormsSpec)

/-- 'veillaw12.MachNews', WHERE WHAT IT READS IS OF BULK AT MOST 1048576: true; the input reads as it did. -/
def machNewsUptoRow : OpenClaim := { program := "ytnhodnfnlnccaaagreat", sum := "a1075d70e25b7c16c42ec2ec06d15e95d5ff5b3dd933d62b0b5d28eacf42a9e5", func := "veil/veillaw12.MachNews", spec := "machNews", unfollowed := true, recurses := true, apart := false, narrowed := true }
def MachNewsUptoSaid : Prop := machNewsUptoRow.holds Tryz.pinned (OpenSpec.upto machNewsSpec)

/-- 'veillaw12.MachTells', WHERE WHAT IT READS IS OF BULK AT MOST 1048576: true; the input reads as it did. -/
def machTellsUptoRow : OpenClaim := { program := "ytnhodnfnlnccaaagreat", sum := "a1075d70e25b7c16c42ec2ec06d15e95d5ff5b3dd933d62b0b5d28eacf42a9e5", func := "veil/veillaw12.MachTells", spec := "machTells", unfollowed := true, recurses := true, apart := false, narrowed := true }
def MachTellsUptoSaid : Prop := machTellsUptoRow.holds Tryz.pinned (OpenSpec.upto machTellsSpec)

/-- 'veillaw12.MachSessions', WHERE WHAT IT READS IS OF BULK AT MOST 1048576: true; the input reads as it did. -/
def machSessionsUptoRow : OpenClaim := { program := "ytnhodnfnlnccaaagreat", sum := "a1075d70e25b7c16c42ec2ec06d15e95d5ff5b3dd933d62b0b5d28eacf42a9e5", func := "veil/veillaw12.MachSessions", spec := "machSessions", unfollowed := true, recurses := true, apart := false, narrowed := true }
def MachSessionsUptoSaid : Prop := machSessionsUptoRow.holds Tryz.pinned (OpenSpec.upto machSessionsSpec)

/-- 'veillaw12.MachNew', WHERE WHAT IT READS IS OF BULK AT MOST 1048576: true; the input reads as it did. -/
def machNewUptoRow : OpenClaim := { program := "ytnhodnfnlnccaaagreat", sum := "a1075d70e25b7c16c42ec2ec06d15e95d5ff5b3dd933d62b0b5d28eacf42a9e5", func := "veil/veillaw12.MachNew", spec := "machNew", unfollowed := true, recurses := true, apart := false, narrowed := true }
def MachNewUptoSaid : Prop := machNewUptoRow.holds Tryz.pinned (OpenSpec.upto machNewSpec)

/-- 'veillaw17.Calcs', WHERE WHAT IT READS IS OF BULK AT MOST 1048576: true; the input reads as it did. -/
def calcsUptoRow : OpenClaim := { program := "ytnhodnfnlnccaaagreat", sum := "a1075d70e25b7c16c42ec2ec06d15e95d5ff5b3dd933d62b0b5d28eacf42a9e5", func := "veil/veillaw17.Calcs", spec := "calcs", unfollowed := true, recurses := true, apart := false, narrowed := true }
def CalcsUptoSaid : Prop := calcsUptoRow.holds Tryz.pinned (OpenSpec.upto calcsSpec)

/-- 'veillaw17.CalcTells', WHERE WHAT IT READS IS OF BULK AT MOST 1048576: true; the input reads as it did. -/
def calcTellsUptoRow : OpenClaim := { program := "ytnhodnfnlnccaaagreat", sum := "a1075d70e25b7c16c42ec2ec06d15e95d5ff5b3dd933d62b0b5d28eacf42a9e5", func := "veil/veillaw17.CalcTells", spec := "calcTells", unfollowed := true, recurses := true, apart := false, narrowed := true }
def CalcTellsUptoSaid : Prop := calcTellsUptoRow.holds Tryz.pinned (OpenSpec.upto calcTellsSpec)

/-- 'veillaw17.CalcZero', WHERE WHAT IT READS IS OF BULK AT MOST 1048576: true; the input reads as it did. -/
def calcZeroUptoRow : OpenClaim := { program := "ytnhodnfnlnccaaagreat", sum := "a1075d70e25b7c16c42ec2ec06d15e95d5ff5b3dd933d62b0b5d28eacf42a9e5", func := "veil/veillaw17.CalcZero", spec := "calcZero", unfollowed := true, recurses := true, apart := false, narrowed := true }
def CalcZeroUptoSaid : Prop := calcZeroUptoRow.holds Tryz.pinned (OpenSpec.upto calcZeroSpec)

/-- 'veillaw17.CalcForms', WHERE WHAT IT READS IS OF BULK AT MOST 1048576: true; the input reads as it did. -/
def calcFormsUptoRow : OpenClaim := { program := "ytnhodnfnlnccaaagreat", sum := "a1075d70e25b7c16c42ec2ec06d15e95d5ff5b3dd933d62b0b5d28eacf42a9e5", func := "veil/veillaw17.CalcForms", spec := "calcForms", unfollowed := true, recurses := true, apart := false, narrowed := true }
def CalcFormsUptoSaid : Prop := calcFormsUptoRow.holds Tryz.pinned (OpenSpec.upto calcFormsSpec)

/-- 'veillaw17.CalcRow', WHERE WHAT IT READS IS OF BULK AT MOST 1048576: true; the input reads as it did. -/
def calcRowUptoRow : OpenClaim := { program := "ytnhodnfnlnccaaagreat", sum := "a1075d70e25b7c16c42ec2ec06d15e95d5ff5b3dd933d62b0b5d28eacf42a9e5", func := "veil/veillaw17.CalcRow", spec := "calcRow", unfollowed := true, recurses := true, apart := false, narrowed := true }
def CalcRowUptoSaid : Prop := calcRowUptoRow.holds Tryz.pinned (OpenSpec.upto calcRowSpec)

/-- 'veillaw16.Storings', WHERE WHAT IT READS IS OF BULK AT MOST 1048576: true; the input reads as it did. -/
def storingsUptoRow : OpenClaim := { program := "ytnhodnfnlnccaaagreat", sum := "a1075d70e25b7c16c42ec2ec06d15e95d5ff5b3dd933d62b0b5d28eacf42a9e5", func := "veil/veillaw16.Storings", spec := "storings", inPlace := ["slices.overlaps[veil/api.Write]"], unfollowed := true, recurses := true, apart := false, narrowed := true }
def StoringsUptoSaid : Prop := storingsUptoRow.holds Tryz.pinned (OpenSpec.upto storingsSpec)

/-- 'veillaw16.StoreKeeps', WHERE WHAT IT READS IS OF BULK AT MOST 1048576: true; the input reads as it did. -/
def storeKeepsUptoRow : OpenClaim := { program := "ytnhodnfnlnccaaagreat", sum := "a1075d70e25b7c16c42ec2ec06d15e95d5ff5b3dd933d62b0b5d28eacf42a9e5", func := "veil/veillaw16.StoreKeeps", spec := "storeKeeps", inPlace := ["slices.overlaps[veil/api.Write]"], unfollowed := true, recurses := true, apart := false, narrowed := true }
def StoreKeepsUptoSaid : Prop := storeKeepsUptoRow.holds Tryz.pinned (OpenSpec.upto storeKeepsSpec)

/-- 'veillaw16.StoreForms', WHERE WHAT IT READS IS OF BULK AT MOST 1048576: true; the input reads as it did. -/
def storeFormsUptoRow : OpenClaim := { program := "ytnhodnfnlnccaaagreat", sum := "a1075d70e25b7c16c42ec2ec06d15e95d5ff5b3dd933d62b0b5d28eacf42a9e5", func := "veil/veillaw16.StoreForms", spec := "storeForms", inPlace := ["slices.overlaps[veil/api.Write]"], unfollowed := true, recurses := true, apart := false, narrowed := true }
def StoreFormsUptoSaid : Prop := storeFormsUptoRow.holds Tryz.pinned (OpenSpec.upto storeFormsSpec)

/-- 'veillaw16.StoreLast', WHERE WHAT IT READS IS OF BULK AT MOST 1048576: true; the input reads as it did. -/
def storeLastUptoRow : OpenClaim := { program := "ytnhodnfnlnccaaagreat", sum := "a1075d70e25b7c16c42ec2ec06d15e95d5ff5b3dd933d62b0b5d28eacf42a9e5", func := "veil/veillaw16.StoreLast", spec := "storeLast", inPlace := ["slices.overlaps[veil/api.Write]"], unfollowed := true, recurses := true, apart := false, narrowed := true }
def StoreLastUptoSaid : Prop := storeLastUptoRow.holds Tryz.pinned (OpenSpec.upto storeLastSpec)

end Rows
end Go.Proofs.YtnhodnfnlnccaaaGreat
