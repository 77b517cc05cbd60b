/- Proved: VeilNames answers true (no argument). No condition. -/
import Derived.Test.YtcjilmhaaeibjaaPVeilNamesx1
namespace Go.Proofs.Ytcjilmhaaeibjaa.Pure
open Go.RowKit Go.Proofs.Ytcjilmhaaeibjaa.PVeilNames Go.Proofs.YtcjilmhaaeibjaaW.PrintWords Go.Proofs.YtcjilmhaaeibjaaW.PrintLast

theorem VeilNames : veillaw0_VeilNames.Pure := by
  rfl

end Go.Proofs.Ytcjilmhaaeibjaa.Pure
