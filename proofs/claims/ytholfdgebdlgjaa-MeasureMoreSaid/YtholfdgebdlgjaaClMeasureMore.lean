/- MeasureMore: one reading more never widens a bound, and a reading that is there already changes nothing. No conditions. -/
import Derived.Test.YtholfdgebdlgjaaLMor
import Derived.Test.YtholfdgebdlgjaaFrMeasureMore
namespace Go.Proofs.Ytholfdgebdlgjaa
open Go.RowKit
theorem measureMore_said : Rows.MeasureMoreSaid :=
  measureMore.said_of_walk fun a0 len0 cap0 z0 w h => (more_walk a0 len0 cap0 z0 w h).mono fun _ _ ⟨h1, h2⟩ => ⟨h1, h2.below⟩
end Go.Proofs.Ytholfdgebdlgjaa
