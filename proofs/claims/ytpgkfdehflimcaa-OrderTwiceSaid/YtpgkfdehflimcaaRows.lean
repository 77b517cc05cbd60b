/-
  No cell of these rows narrows 'for every input' (looked for: loops, veiled, ifaces, maps, wideKeys, modest, calm, conditions, laid).
  DERIVED. THE GIVEN ROWS OF THIS SEAT. 18 by the template 'for every input the law returns true; each argument reads behind the call as it read before'; 0 by the template 'total and deterministic' (their statements: YtpgkfdehflimcaaTotals.lean).
  GIVEN WITH THE SEED: the statements are not yours to turn. If you find one false, say at which input.
  Laid BY PROGRAM, IN A SANDBOX (cutbox-rows.mjs): the forced cells as the released guide's own fill.sh prints them over the translation f13be3df108c87c5… (all of the seat's roots in one cut). By AI agents, Wed Nov 11 2026. No macro, syntax, notation, axiom, sorry.
-/
import Derived.Test.YtpgkfdehflimcaaChecked
import GoSem.Claim
import GoSem.ClaimJoined
import GoSem.ClaimMapViews
import Derived.JoinedTies
import Derived.KernelRfl
namespace Go.Proofs.Ytpgkfdehflimcaa
/- THE CELL 'sum', in the pinned program and in every row, IS THE sha256 OF THE DUMP (.gsa) THAT YtpgkfdehflimcaaProg.lean LOADS. Nothing in Lean hashes anything: it is a label: what it is worth is what the hold of that sum in a sandbox is worth. -/
noncomputable def Try.pinned : Pinned := { name := "ytpgkfdehflimcaa", sum := "f13be3df108c87c5e1d550e05e61ee6409342ac5897268e208d7ef2c81788baf", checked := Try.checked }
namespace Rows
def none {H : Type} : Left H := { results := [], args := [] }

/-- 'veillaw5.Clocks': WHATEVER THE INPUT: true; the input reads as it did. -/
def clocksSpec : ChangeSpec := { name := "clocks", fn := fun _ => fun
  | [d1, d2, d3] => { results := [.lit (.bool true)], args := [d1, d2, d3] }
  | _ => none }
def clocksRow : OpenClaim := { program := "ytpgkfdehflimcaa", sum := "f13be3df108c87c5e1d550e05e61ee6409342ac5897268e208d7ef2c81788baf", func := "veil/veillaw5.Clocks", spec := "clocks", apart := false }
def ClocksSaid : Prop := clocksRow.holds Try.pinned (OpenSpec.ofChange clocksSpec)

/-- ITS FALSE NEIGHBOUR: 'it returns false'. Refute it at one input. -/
def clocksWrong : ChangeSpec := { name := "clocks", fn := fun _ => fun
  | [d1, d2, d3] => { results := [.lit (.bool false)], args := [d1, d2, d3] }
  | _ => none }
def ClocksWrongFalsely : Prop := clocksRow.holds Try.pinned (OpenSpec.ofChange clocksWrong)

/-- 'veillaw5.ClockApart': WHATEVER THE INPUT: true; the input reads as it did. -/
def clockApartSpec : ChangeSpec := { name := "clockApart", fn := fun _ => fun
  | [d1, d2] => { results := [.lit (.bool true)], args := [d1, d2] }
  | _ => none }
def clockApartRow : OpenClaim := { program := "ytpgkfdehflimcaa", sum := "f13be3df108c87c5e1d550e05e61ee6409342ac5897268e208d7ef2c81788baf", func := "veil/veillaw5.ClockApart", spec := "clockApart", apart := false }
def ClockApartSaid : Prop := clockApartRow.holds Try.pinned (OpenSpec.ofChange clockApartSpec)

/-- ITS FALSE NEIGHBOUR: 'it returns false'. Refute it at one input. -/
def clockApartWrong : ChangeSpec := { name := "clockApart", fn := fun _ => fun
  | [d1, d2] => { results := [.lit (.bool false)], args := [d1, d2] }
  | _ => none }
def ClockApartWrongFalsely : Prop := clockApartRow.holds Try.pinned (OpenSpec.ofChange clockApartWrong)

/-- 'veillaw5.ClockForms': WHATEVER THE INPUT: true; the input reads as it did. -/
def clockFormsSpec : ChangeSpec := { name := "clockForms", fn := fun _ => fun
  | [d1, d2] => { results := [.lit (.bool true)], args := [d1, d2] }
  | _ => none }
def clockFormsRow : OpenClaim := { program := "ytpgkfdehflimcaa", sum := "f13be3df108c87c5e1d550e05e61ee6409342ac5897268e208d7ef2c81788baf", func := "veil/veillaw5.ClockForms", spec := "clockForms", apart := false }
def ClockFormsSaid : Prop := clockFormsRow.holds Try.pinned (OpenSpec.ofChange clockFormsSpec)

/-- ITS FALSE NEIGHBOUR: 'it returns false'. Refute it at one input. -/
def clockFormsWrong : ChangeSpec := { name := "clockForms", fn := fun _ => fun
  | [d1, d2] => { results := [.lit (.bool false)], args := [d1, d2] }
  | _ => none }
def ClockFormsWrongFalsely : Prop := clockFormsRow.holds Try.pinned (OpenSpec.ofChange clockFormsWrong)

/-- 'veillaw5.ClockRow': WHATEVER THE INPUT: true; the input reads as it did. -/
def clockRowSpec : ChangeSpec := { name := "clockRow", fn := fun _ => fun
  | [d1, d2] => { results := [.lit (.bool true)], args := [d1, d2] }
  | _ => none }
def clockRowRow : OpenClaim := { program := "ytpgkfdehflimcaa", sum := "f13be3df108c87c5e1d550e05e61ee6409342ac5897268e208d7ef2c81788baf", func := "veil/veillaw5.ClockRow", spec := "clockRow", apart := false }
def ClockRowSaid : Prop := clockRowRow.holds Try.pinned (OpenSpec.ofChange clockRowSpec)

/-- ITS FALSE NEIGHBOUR: 'it returns false'. Refute it at one input. -/
def clockRowWrong : ChangeSpec := { name := "clockRow", fn := fun _ => fun
  | [d1, d2] => { results := [.lit (.bool false)], args := [d1, d2] }
  | _ => none }
def ClockRowWrongFalsely : Prop := clockRowRow.holds Try.pinned (OpenSpec.ofChange clockRowWrong)

/-- 'veillaw6.Regs': WHATEVER THE INPUT: true; the input reads as it did. -/
def regsSpec : ChangeSpec := { name := "regs", fn := fun _ => fun
  | [d1, d2, d3] => { results := [.lit (.bool true)], args := [d1, d2, d3] }
  | _ => none }
def regsRow : OpenClaim := { program := "ytpgkfdehflimcaa", sum := "f13be3df108c87c5e1d550e05e61ee6409342ac5897268e208d7ef2c81788baf", func := "veil/veillaw6.Regs", spec := "regs", apart := false }
def RegsSaid : Prop := regsRow.holds Try.pinned (OpenSpec.ofChange regsSpec)

/-- ITS FALSE NEIGHBOUR: 'it returns false'. Refute it at one input. -/
def regsWrong : ChangeSpec := { name := "regs", fn := fun _ => fun
  | [d1, d2, d3] => { results := [.lit (.bool false)], args := [d1, d2, d3] }
  | _ => none }
def RegsWrongFalsely : Prop := regsRow.holds Try.pinned (OpenSpec.ofChange regsWrong)

/-- 'veillaw6.RegsForms': WHATEVER THE INPUT: true; the input reads as it did. -/
def regsFormsSpec : ChangeSpec := { name := "regsForms", fn := fun _ => fun
  | [d1, d2] => { results := [.lit (.bool true)], args := [d1, d2] }
  | _ => none }
def regsFormsRow : OpenClaim := { program := "ytpgkfdehflimcaa", sum := "f13be3df108c87c5e1d550e05e61ee6409342ac5897268e208d7ef2c81788baf", func := "veil/veillaw6.RegsForms", spec := "regsForms", apart := false }
def RegsFormsSaid : Prop := regsFormsRow.holds Try.pinned (OpenSpec.ofChange regsFormsSpec)

/-- ITS FALSE NEIGHBOUR: 'it returns false'. Refute it at one input. -/
def regsFormsWrong : ChangeSpec := { name := "regsForms", fn := fun _ => fun
  | [d1, d2] => { results := [.lit (.bool false)], args := [d1, d2] }
  | _ => none }
def RegsFormsWrongFalsely : Prop := regsFormsRow.holds Try.pinned (OpenSpec.ofChange regsFormsWrong)

/-- 'veillaw6.RegsSums': WHATEVER THE INPUT: true; the input reads as it did. -/
def regsSumsSpec : ChangeSpec := { name := "regsSums", fn := fun _ => fun
  | [d] => { results := [.lit (.bool true)], args := [d] }
  | _ => none }
def regsSumsRow : OpenClaim := { program := "ytpgkfdehflimcaa", sum := "f13be3df108c87c5e1d550e05e61ee6409342ac5897268e208d7ef2c81788baf", func := "veil/veillaw6.RegsSums", spec := "regsSums", apart := false }
def RegsSumsSaid : Prop := regsSumsRow.holds Try.pinned (OpenSpec.ofChange regsSumsSpec)

/-- ITS FALSE NEIGHBOUR: 'it returns false'. Refute it at one input. -/
def regsSumsWrong : ChangeSpec := { name := "regsSums", fn := fun _ => fun
  | [d] => { results := [.lit (.bool false)], args := [d] }
  | _ => none }
def RegsSumsWrongFalsely : Prop := regsSumsRow.holds Try.pinned (OpenSpec.ofChange regsSumsWrong)

/-- 'veillaw6.RegsOther': WHATEVER THE INPUT: true; the input reads as it did. -/
def regsOtherSpec : ChangeSpec := { name := "regsOther", fn := fun _ => fun
  | [d1, d2, d3, d4] => { results := [.lit (.bool true)], args := [d1, d2, d3, d4] }
  | _ => none }
def regsOtherRow : OpenClaim := { program := "ytpgkfdehflimcaa", sum := "f13be3df108c87c5e1d550e05e61ee6409342ac5897268e208d7ef2c81788baf", func := "veil/veillaw6.RegsOther", spec := "regsOther", apart := false }
def RegsOtherSaid : Prop := regsOtherRow.holds Try.pinned (OpenSpec.ofChange regsOtherSpec)

/-- ITS FALSE NEIGHBOUR: 'it returns false'. Refute it at one input. -/
def regsOtherWrong : ChangeSpec := { name := "regsOther", fn := fun _ => fun
  | [d1, d2, d3, d4] => { results := [.lit (.bool false)], args := [d1, d2, d3, d4] }
  | _ => none }
def RegsOtherWrongFalsely : Prop := regsOtherRow.holds Try.pinned (OpenSpec.ofChange regsOtherWrong)

/-- 'veillaw3.Words': WHATEVER THE INPUT: true; the input reads as it did. -/
def wordsSpec : ChangeSpec := { name := "words", fn := fun _ => fun
  | [d1, d2, d3, d4] => { results := [.lit (.bool true)], args := [d1, d2, d3, d4] }
  | _ => none }
def wordsRow : OpenClaim := { program := "ytpgkfdehflimcaa", sum := "f13be3df108c87c5e1d550e05e61ee6409342ac5897268e208d7ef2c81788baf", func := "veil/veillaw3.Words", spec := "words", apart := false }
def WordsSaid : Prop := wordsRow.holds Try.pinned (OpenSpec.ofChange wordsSpec)

/-- ITS FALSE NEIGHBOUR: 'it returns false'. Refute it at one input. -/
def wordsWrong : ChangeSpec := { name := "words", fn := fun _ => fun
  | [d1, d2, d3, d4] => { results := [.lit (.bool false)], args := [d1, d2, d3, d4] }
  | _ => none }
def WordsWrongFalsely : Prop := wordsRow.holds Try.pinned (OpenSpec.ofChange wordsWrong)

/-- 'veillaw3.WordLocks': WHATEVER THE INPUT: true; the input reads as it did. -/
def wordLocksSpec : ChangeSpec := { name := "wordLocks", fn := fun _ => fun
  | [d1, d2, d3] => { results := [.lit (.bool true)], args := [d1, d2, d3] }
  | _ => none }
def wordLocksRow : OpenClaim := { program := "ytpgkfdehflimcaa", sum := "f13be3df108c87c5e1d550e05e61ee6409342ac5897268e208d7ef2c81788baf", func := "veil/veillaw3.WordLocks", spec := "wordLocks", apart := false }
def WordLocksSaid : Prop := wordLocksRow.holds Try.pinned (OpenSpec.ofChange wordLocksSpec)

/-- ITS FALSE NEIGHBOUR: 'it returns false'. Refute it at one input. -/
def wordLocksWrong : ChangeSpec := { name := "wordLocks", fn := fun _ => fun
  | [d1, d2, d3] => { results := [.lit (.bool false)], args := [d1, d2, d3] }
  | _ => none }
def WordLocksWrongFalsely : Prop := wordLocksRow.holds Try.pinned (OpenSpec.ofChange wordLocksWrong)

/-- 'veillaw3.WordForms': WHATEVER THE INPUT: true; the input reads as it did. -/
def wordFormsSpec : ChangeSpec := { name := "wordForms", fn := fun _ => fun
  | [d1, d2] => { results := [.lit (.bool true)], args := [d1, d2] }
  | _ => none }
def wordFormsRow : OpenClaim := { program := "ytpgkfdehflimcaa", sum := "f13be3df108c87c5e1d550e05e61ee6409342ac5897268e208d7ef2c81788baf", func := "veil/veillaw3.WordForms", spec := "wordForms", apart := false }
def WordFormsSaid : Prop := wordFormsRow.holds Try.pinned (OpenSpec.ofChange wordFormsSpec)

/-- ITS FALSE NEIGHBOUR: 'it returns false'. Refute it at one input. -/
def wordFormsWrong : ChangeSpec := { name := "wordForms", fn := fun _ => fun
  | [d1, d2] => { results := [.lit (.bool false)], args := [d1, d2] }
  | _ => none }
def WordFormsWrongFalsely : Prop := wordFormsRow.holds Try.pinned (OpenSpec.ofChange wordFormsWrong)

/-- 'veillaw3.WordWrites': WHATEVER THE INPUT: true; the input reads as it did. -/
def wordWritesSpec : ChangeSpec := { name := "wordWrites", fn := fun _ => fun
  | [d1, d2, d3, d4] => { results := [.lit (.bool true)], args := [d1, d2, d3, d4] }
  | _ => none }
def wordWritesRow : OpenClaim := { program := "ytpgkfdehflimcaa", sum := "f13be3df108c87c5e1d550e05e61ee6409342ac5897268e208d7ef2c81788baf", func := "veil/veillaw3.WordWrites", spec := "wordWrites", apart := false }
def WordWritesSaid : Prop := wordWritesRow.holds Try.pinned (OpenSpec.ofChange wordWritesSpec)

/-- ITS FALSE NEIGHBOUR: 'it returns false'. Refute it at one input. -/
def wordWritesWrong : ChangeSpec := { name := "wordWrites", fn := fun _ => fun
  | [d1, d2, d3, d4] => { results := [.lit (.bool false)], args := [d1, d2, d3, d4] }
  | _ => none }
def WordWritesWrongFalsely : Prop := wordWritesRow.holds Try.pinned (OpenSpec.ofChange wordWritesWrong)

/-- 'veillaw3.WordRow': WHATEVER THE INPUT: true; the input reads as it did. -/
def wordRowSpec : ChangeSpec := { name := "wordRow", fn := fun _ => fun
  | [d] => { results := [.lit (.bool true)], args := [d] }
  | _ => none }
def wordRowRow : OpenClaim := { program := "ytpgkfdehflimcaa", sum := "f13be3df108c87c5e1d550e05e61ee6409342ac5897268e208d7ef2c81788baf", func := "veil/veillaw3.WordRow", spec := "wordRow", apart := false }
def WordRowSaid : Prop := wordRowRow.holds Try.pinned (OpenSpec.ofChange wordRowSpec)

/-- ITS FALSE NEIGHBOUR: 'it returns false'. Refute it at one input. -/
def wordRowWrong : ChangeSpec := { name := "wordRow", fn := fun _ => fun
  | [d] => { results := [.lit (.bool false)], args := [d] }
  | _ => none }
def WordRowWrongFalsely : Prop := wordRowRow.holds Try.pinned (OpenSpec.ofChange wordRowWrong)

/-- 'veillaw2.Orders': WHATEVER THE INPUT: true; the input reads as it did. -/
def ordersSpec : ChangeSpec := { name := "orders", fn := fun _ => fun
  | [d] => { results := [.lit (.bool true)], args := [d] }
  | _ => none }
def ordersRow : OpenClaim := { program := "ytpgkfdehflimcaa", sum := "f13be3df108c87c5e1d550e05e61ee6409342ac5897268e208d7ef2c81788baf", func := "veil/veillaw2.Orders", spec := "orders", unfollowed := true, recurses := true, apart := false }
def OrdersSaid : Prop := ordersRow.holds Try.pinned (OpenSpec.ofChange ordersSpec)

/-- ITS FALSE NEIGHBOUR: 'it returns false'. Refute it at one input. -/
def ordersWrong : ChangeSpec := { name := "orders", fn := fun _ => fun
  | [d] => { results := [.lit (.bool false)], args := [d] }
  | _ => none }
def OrdersWrongFalsely : Prop := ordersRow.holds Try.pinned (OpenSpec.ofChange ordersWrong)

/-- 'veillaw2.OrderJoin': WHATEVER THE INPUT: true; the input reads as it did. -/
def orderJoinSpec : ChangeSpec := { name := "orderJoin", fn := fun _ => fun
  | [d1, d2, d3] => { results := [.lit (.bool true)], args := [d1, d2, d3] }
  | _ => none }
def orderJoinRow : OpenClaim := { program := "ytpgkfdehflimcaa", sum := "f13be3df108c87c5e1d550e05e61ee6409342ac5897268e208d7ef2c81788baf", func := "veil/veillaw2.OrderJoin", spec := "orderJoin", unfollowed := true, recurses := true, apart := false }
def OrderJoinSaid : Prop := orderJoinRow.holds Try.pinned (OpenSpec.ofChange orderJoinSpec)

/-- ITS FALSE NEIGHBOUR: 'it returns false'. Refute it at one input. -/
def orderJoinWrong : ChangeSpec := { name := "orderJoin", fn := fun _ => fun
  | [d1, d2, d3] => { results := [.lit (.bool false)], args := [d1, d2, d3] }
  | _ => none }
def OrderJoinWrongFalsely : Prop := orderJoinRow.holds Try.pinned (OpenSpec.ofChange orderJoinWrong)

/-- 'veillaw2.OrderChain': WHATEVER THE INPUT: true; the input reads as it did. -/
def orderChainSpec : ChangeSpec := { name := "orderChain", fn := fun _ => fun
  | [d] => { results := [.lit (.bool true)], args := [d] }
  | _ => none }
def orderChainRow : OpenClaim := { program := "ytpgkfdehflimcaa", sum := "f13be3df108c87c5e1d550e05e61ee6409342ac5897268e208d7ef2c81788baf", func := "veil/veillaw2.OrderChain", spec := "orderChain", unfollowed := true, recurses := true, apart := false }
def OrderChainSaid : Prop := orderChainRow.holds Try.pinned (OpenSpec.ofChange orderChainSpec)

/-- ITS FALSE NEIGHBOUR: 'it returns false'. Refute it at one input. -/
def orderChainWrong : ChangeSpec := { name := "orderChain", fn := fun _ => fun
  | [d] => { results := [.lit (.bool false)], args := [d] }
  | _ => none }
def OrderChainWrongFalsely : Prop := orderChainRow.holds Try.pinned (OpenSpec.ofChange orderChainWrong)

/-- 'veillaw2.OrderForms': WHATEVER THE INPUT: true; the input reads as it did. -/
def orderFormsSpec : ChangeSpec := { name := "orderForms", fn := fun _ => fun
  | [d1, d2, d3] => { results := [.lit (.bool true)], args := [d1, d2, d3] }
  | _ => none }
def orderFormsRow : OpenClaim := { program := "ytpgkfdehflimcaa", sum := "f13be3df108c87c5e1d550e05e61ee6409342ac5897268e208d7ef2c81788baf", func := "veil/veillaw2.OrderForms", spec := "orderForms", unfollowed := true, recurses := true, apart := false }
def OrderFormsSaid : Prop := orderFormsRow.holds Try.pinned (OpenSpec.ofChange orderFormsSpec)

/-- ITS FALSE NEIGHBOUR: 'it returns false'. Refute it at one input. -/
def orderFormsWrong : ChangeSpec := { name := "orderForms", fn := fun _ => fun
  | [d1, d2, d3] => { results := [.lit (.bool false)], args := [d1, d2, d3] }
  | _ => none }
def OrderFormsWrongFalsely : Prop := orderFormsRow.holds Try.pinned (OpenSpec.ofChange orderFormsWrong)

/-- 'veillaw2.OrderTwice': WHATEVER THE INPUT: true; the input reads as it did. -/
def orderTwiceSpec : ChangeSpec := { name := "orderTwice", fn := fun _ => fun
  | [d1, d2, d3] => { results := [.lit (.bool true)], args := [d1, d2, d3] }
  | _ => none }
def orderTwiceRow : OpenClaim := { program := "ytpgkfdehflimcaa", sum := "f13be3df108c87c5e1d550e05e61ee6409342ac5897268e208d7ef2c81788baf", func := "veil/veillaw2.OrderTwice", spec := "orderTwice", unfollowed := true, recurses := true, apart := false }
def OrderTwiceSaid : Prop := orderTwiceRow.holds Try.pinned (OpenSpec.ofChange orderTwiceSpec)

/-- ITS FALSE NEIGHBOUR: 'it returns false'. Refute it at one input. -/
def orderTwiceWrong : ChangeSpec := { name := "orderTwice", fn := fun _ => fun
  | [d1, d2, d3] => { results := [.lit (.bool false)], args := [d1, d2, d3] }
  | _ => none }
def OrderTwiceWrongFalsely : Prop := orderTwiceRow.holds Try.pinned (OpenSpec.ofChange orderTwiceWrong)

/- THE SECOND FORM. 'bulk': how many values and letters a reading holds, each counted each time it is reached (what is shared counts as often as it is met; a slice's spare places count too). A statement '..UptoSaid' is the law's where the arguments, and the package variables that the reading takes, are together of bulk at most 1048576: NARROWER than '..Said'. Prove '..Said' where nothing that the law and all that it calls make is longer than what came in: it says more and counts as full. Else prove '..UptoSaid'. A law counts once. -/
mutual
def uptoBulk {H : Type} : DataW H → Nat
  | .lit (.string bytes) => bytes.length + 1
  | .lit _ => 1
  | .nil => 1
  | .ptr d => uptoBulk d + 1
  | .slice elems spare => uptoBulkAll elems + uptoBulkAll spare + 1
  | .agg parts => uptoBulkAll parts + 1
  | .iface _ d => uptoBulk d + 1
  | .map entries => uptoBulkEntries entries + 1
  | .held _ => 1
def uptoBulkAll {H : Type} : List (DataW H) → Nat
  | [] => 0
  | d :: r => uptoBulk d + uptoBulkAll r
def uptoBulkEntries {H : Type} : List (Lit × DataW H) → Nat
  | [] => 0
  | x :: r => uptoBulkEntry x + uptoBulkEntries r
def uptoBulkEntry {H : Type} : Lit × DataW H → Nat
  | (.string bytes, d) => bytes.length + uptoBulk d + 1
  | (_, d) => uptoBulk d + 1
 end
def uptoSmall : (H : Type) → List (DataW H) → Bool := fun _ ds => decide (uptoBulkAll ds ≤ 1048576)
def OpenSpec.upto (s : _root_.Go.ChangeSpec) : _root_.Go.OpenSpec := { _root_.Go.OpenSpec.ofChange s with cond := some uptoSmall }

/-- 'veillaw5.Clocks', WHERE WHAT IT READS IS OF BULK AT MOST 1048576: true; the input reads as it did. -/
def clocksUptoRow : OpenClaim := { program := "ytpgkfdehflimcaa", sum := "f13be3df108c87c5e1d550e05e61ee6409342ac5897268e208d7ef2c81788baf", func := "veil/veillaw5.Clocks", spec := "clocks", apart := false, narrowed := true }
def ClocksUptoSaid : Prop := clocksUptoRow.holds Try.pinned (OpenSpec.upto clocksSpec)

/-- 'veillaw5.ClockApart', WHERE WHAT IT READS IS OF BULK AT MOST 1048576: true; the input reads as it did. -/
def clockApartUptoRow : OpenClaim := { program := "ytpgkfdehflimcaa", sum := "f13be3df108c87c5e1d550e05e61ee6409342ac5897268e208d7ef2c81788baf", func := "veil/veillaw5.ClockApart", spec := "clockApart", apart := false, narrowed := true }
def ClockApartUptoSaid : Prop := clockApartUptoRow.holds Try.pinned (OpenSpec.upto clockApartSpec)

/-- 'veillaw5.ClockForms', WHERE WHAT IT READS IS OF BULK AT MOST 1048576: true; the input reads as it did. -/
def clockFormsUptoRow : OpenClaim := { program := "ytpgkfdehflimcaa", sum := "f13be3df108c87c5e1d550e05e61ee6409342ac5897268e208d7ef2c81788baf", func := "veil/veillaw5.ClockForms", spec := "clockForms", apart := false, narrowed := true }
def ClockFormsUptoSaid : Prop := clockFormsUptoRow.holds Try.pinned (OpenSpec.upto clockFormsSpec)

/-- 'veillaw5.ClockRow', WHERE WHAT IT READS IS OF BULK AT MOST 1048576: true; the input reads as it did. -/
def clockRowUptoRow : OpenClaim := { program := "ytpgkfdehflimcaa", sum := "f13be3df108c87c5e1d550e05e61ee6409342ac5897268e208d7ef2c81788baf", func := "veil/veillaw5.ClockRow", spec := "clockRow", apart := false, narrowed := true }
def ClockRowUptoSaid : Prop := clockRowUptoRow.holds Try.pinned (OpenSpec.upto clockRowSpec)

/-- 'veillaw6.Regs', WHERE WHAT IT READS IS OF BULK AT MOST 1048576: true; the input reads as it did. -/
def regsUptoRow : OpenClaim := { program := "ytpgkfdehflimcaa", sum := "f13be3df108c87c5e1d550e05e61ee6409342ac5897268e208d7ef2c81788baf", func := "veil/veillaw6.Regs", spec := "regs", apart := false, narrowed := true }
def RegsUptoSaid : Prop := regsUptoRow.holds Try.pinned (OpenSpec.upto regsSpec)

/-- 'veillaw6.RegsForms', WHERE WHAT IT READS IS OF BULK AT MOST 1048576: true; the input reads as it did. -/
def regsFormsUptoRow : OpenClaim := { program := "ytpgkfdehflimcaa", sum := "f13be3df108c87c5e1d550e05e61ee6409342ac5897268e208d7ef2c81788baf", func := "veil/veillaw6.RegsForms", spec := "regsForms", apart := false, narrowed := true }
def RegsFormsUptoSaid : Prop := regsFormsUptoRow.holds Try.pinned (OpenSpec.upto regsFormsSpec)

/-- 'veillaw6.RegsSums', WHERE WHAT IT READS IS OF BULK AT MOST 1048576: true; the input reads as it did. -/
def regsSumsUptoRow : OpenClaim := { program := "ytpgkfdehflimcaa", sum := "f13be3df108c87c5e1d550e05e61ee6409342ac5897268e208d7ef2c81788baf", func := "veil/veillaw6.RegsSums", spec := "regsSums", apart := false, narrowed := true }
def RegsSumsUptoSaid : Prop := regsSumsUptoRow.holds Try.pinned (OpenSpec.upto regsSumsSpec)

/-- 'veillaw6.RegsOther', WHERE WHAT IT READS IS OF BULK AT MOST 1048576: true; the input reads as it did. -/
def regsOtherUptoRow : OpenClaim := { program := "ytpgkfdehflimcaa", sum := "f13be3df108c87c5e1d550e05e61ee6409342ac5897268e208d7ef2c81788baf", func := "veil/veillaw6.RegsOther", spec := "regsOther", apart := false, narrowed := true }
def RegsOtherUptoSaid : Prop := regsOtherUptoRow.holds Try.pinned (OpenSpec.upto regsOtherSpec)

/-- 'veillaw3.Words', WHERE WHAT IT READS IS OF BULK AT MOST 1048576: true; the input reads as it did. -/
def wordsUptoRow : OpenClaim := { program := "ytpgkfdehflimcaa", sum := "f13be3df108c87c5e1d550e05e61ee6409342ac5897268e208d7ef2c81788baf", func := "veil/veillaw3.Words", spec := "words", apart := false, narrowed := true }
def WordsUptoSaid : Prop := wordsUptoRow.holds Try.pinned (OpenSpec.upto wordsSpec)

/-- 'veillaw3.WordLocks', WHERE WHAT IT READS IS OF BULK AT MOST 1048576: true; the input reads as it did. -/
def wordLocksUptoRow : OpenClaim := { program := "ytpgkfdehflimcaa", sum := "f13be3df108c87c5e1d550e05e61ee6409342ac5897268e208d7ef2c81788baf", func := "veil/veillaw3.WordLocks", spec := "wordLocks", apart := false, narrowed := true }
def WordLocksUptoSaid : Prop := wordLocksUptoRow.holds Try.pinned (OpenSpec.upto wordLocksSpec)

/-- 'veillaw3.WordForms', WHERE WHAT IT READS IS OF BULK AT MOST 1048576: true; the input reads as it did. -/
def wordFormsUptoRow : OpenClaim := { program := "ytpgkfdehflimcaa", sum := "f13be3df108c87c5e1d550e05e61ee6409342ac5897268e208d7ef2c81788baf", func := "veil/veillaw3.WordForms", spec := "wordForms", apart := false, narrowed := true }
def WordFormsUptoSaid : Prop := wordFormsUptoRow.holds Try.pinned (OpenSpec.upto wordFormsSpec)

/-- 'veillaw3.WordWrites', WHERE WHAT IT READS IS OF BULK AT MOST 1048576: true; the input reads as it did. -/
def wordWritesUptoRow : OpenClaim := { program := "ytpgkfdehflimcaa", sum := "f13be3df108c87c5e1d550e05e61ee6409342ac5897268e208d7ef2c81788baf", func := "veil/veillaw3.WordWrites", spec := "wordWrites", apart := false, narrowed := true }
def WordWritesUptoSaid : Prop := wordWritesUptoRow.holds Try.pinned (OpenSpec.upto wordWritesSpec)

/-- 'veillaw3.WordRow', WHERE WHAT IT READS IS OF BULK AT MOST 1048576: true; the input reads as it did. -/
def wordRowUptoRow : OpenClaim := { program := "ytpgkfdehflimcaa", sum := "f13be3df108c87c5e1d550e05e61ee6409342ac5897268e208d7ef2c81788baf", func := "veil/veillaw3.WordRow", spec := "wordRow", apart := false, narrowed := true }
def WordRowUptoSaid : Prop := wordRowUptoRow.holds Try.pinned (OpenSpec.upto wordRowSpec)

/-- 'veillaw2.Orders', WHERE WHAT IT READS IS OF BULK AT MOST 1048576: true; the input reads as it did. -/
def ordersUptoRow : OpenClaim := { program := "ytpgkfdehflimcaa", sum := "f13be3df108c87c5e1d550e05e61ee6409342ac5897268e208d7ef2c81788baf", func := "veil/veillaw2.Orders", spec := "orders", unfollowed := true, recurses := true, apart := false, narrowed := true }
def OrdersUptoSaid : Prop := ordersUptoRow.holds Try.pinned (OpenSpec.upto ordersSpec)

/-- 'veillaw2.OrderJoin', WHERE WHAT IT READS IS OF BULK AT MOST 1048576: true; the input reads as it did. -/
def orderJoinUptoRow : OpenClaim := { program := "ytpgkfdehflimcaa", sum := "f13be3df108c87c5e1d550e05e61ee6409342ac5897268e208d7ef2c81788baf", func := "veil/veillaw2.OrderJoin", spec := "orderJoin", unfollowed := true, recurses := true, apart := false, narrowed := true }
def OrderJoinUptoSaid : Prop := orderJoinUptoRow.holds Try.pinned (OpenSpec.upto orderJoinSpec)

/-- 'veillaw2.OrderChain', WHERE WHAT IT READS IS OF BULK AT MOST 1048576: true; the input reads as it did. -/
def orderChainUptoRow : OpenClaim := { program := "ytpgkfdehflimcaa", sum := "f13be3df108c87c5e1d550e05e61ee6409342ac5897268e208d7ef2c81788baf", func := "veil/veillaw2.OrderChain", spec := "orderChain", unfollowed := true, recurses := true, apart := false, narrowed := true }
def OrderChainUptoSaid : Prop := orderChainUptoRow.holds Try.pinned (OpenSpec.upto orderChainSpec)

/-- 'veillaw2.OrderForms', WHERE WHAT IT READS IS OF BULK AT MOST 1048576: true; the input reads as it did. -/
def orderFormsUptoRow : OpenClaim := { program := "ytpgkfdehflimcaa", sum := "f13be3df108c87c5e1d550e05e61ee6409342ac5897268e208d7ef2c81788baf", func := "veil/veillaw2.OrderForms", spec := "orderForms", unfollowed := true, recurses := true, apart := false, narrowed := true }
def OrderFormsUptoSaid : Prop := orderFormsUptoRow.holds Try.pinned (OpenSpec.upto orderFormsSpec)

/-- 'veillaw2.OrderTwice', WHERE WHAT IT READS IS OF BULK AT MOST 1048576: true; the input reads as it did. -/
def orderTwiceUptoRow : OpenClaim := { program := "ytpgkfdehflimcaa", sum := "f13be3df108c87c5e1d550e05e61ee6409342ac5897268e208d7ef2c81788baf", func := "veil/veillaw2.OrderTwice", spec := "orderTwice", unfollowed := true, recurses := true, apart := false, narrowed := true }
def OrderTwiceUptoSaid : Prop := orderTwiceUptoRow.holds Try.pinned (OpenSpec.upto orderTwiceSpec)

end Rows
end Go.Proofs.Ytpgkfdehflimcaa
