/- The law MeasureNext holds: no tailor is better. No conditions. -/
import Derived.Test.YtholfdgebdlgjaaLNxt
import Derived.Test.YtholfdgebdlgjaaFrMeasureNext
namespace Go.Proofs.Ytholfdgebdlgjaa
open Go.RowKit
theorem measureNext_said : Rows.MeasureNextSaid :=
  measureNext.said_of_walk fun a0 len0 cap0 z0 w h => (next_walk a0 len0 cap0 z0 w h).mono fun _ _ ⟨h1, h2⟩ => ⟨h1, h2.below⟩
end Go.Proofs.Ytholfdgebdlgjaa
