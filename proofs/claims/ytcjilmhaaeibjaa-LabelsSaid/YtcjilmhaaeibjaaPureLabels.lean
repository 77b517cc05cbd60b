/- Proved: Labels answers true for every two numbers. No condition. -/
import Derived.Test.YtcjilmhaaeibjaaPLabelsx1
namespace Go.Proofs.Ytcjilmhaaeibjaa.Pure
open Go.RowKit Go.Proofs.Ytcjilmhaaeibjaa.PLabels Go.Proofs.YtcjilmhaaeibjaaW.PrintWords Go.Proofs.YtcjilmhaaeibjaaW.PrintLast

theorem Labels : veillaw1_Labels.Pure := by
  intro a b ha hb
  unfold veillaw1_Labels.f label_Join.f veilref1_Join.f label_Below.f veilref1_Below.f label_Under.f veilref1_Under.f veilref1_LabelMay.f veilref1_upTo.f label_May.f
  have hw : veillaw1_awake.f = some true := by rfl
  rw [hw]
  by_cases h1 : a ≥ 0 <;> by_cases h2 : a < 4 <;> by_cases h3 : b ≥ 0 <;> by_cases h4 : b < 4 <;>
    simp [veillaw0_Num.f, h1, h2, h3, h4, show (a ≤ 3) = (a < 4) from propext (by omega), show (b ≤ 3) = (b < 4) from propext (by omega)]

end Go.Proofs.Ytcjilmhaaeibjaa.Pure
