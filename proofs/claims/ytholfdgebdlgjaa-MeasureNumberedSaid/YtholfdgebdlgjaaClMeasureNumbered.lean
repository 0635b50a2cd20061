/- The law MeasureNumbered holds: singers and tailors may get other numbers. No conditions. -/
import Derived.Test.YtholfdgebdlgjaaLNum
import Derived.Test.YtholfdgebdlgjaaFrMeasureNumbered
namespace Go.Proofs.Ytholfdgebdlgjaa
open Go.RowKit
theorem measureNumbered_said : Rows.MeasureNumberedSaid :=
  measureNumbered.said_of_walk fun a0 len0 cap0 z0 w h => (numbered_walk a0 len0 cap0 z0 w h).mono fun _ _ ⟨h1, h2⟩ => ⟨h1, h2.below⟩
end Go.Proofs.Ytholfdgebdlgjaa
