/- The limits and errors of the chapter have the document's numbers: what the closed sentence answers, in plain Lean. -/
import Derived.Test.YtjkopfilcckjhaaPAgedNamesx1
namespace Go.Proofs.Ytjkopfilcckjhaa.Pure
open Go.RowKit Go.Proofs.Ytjkopfilcckjhaa.PAgedNames Go.Proofs.YtjkopfilcckjhaaW.PrintWords Go.Proofs.YtjkopfilcckjhaaW.PrintLast

theorem AgedNames : daybooklaw10_AgedNames.Pure := by
  unfold daybooklaw10_AgedNames.Pure
  decide +kernel

end Go.Proofs.Ytjkopfilcckjhaa.Pure
