/- The law MeasureRing holds: no shorter list of readings leaves no truth. No conditions. -/
import Derived.Test.YtholfdgebdlgjaaLRng
import Derived.Test.YtholfdgebdlgjaaFrMeasureRing
namespace Go.Proofs.Ytholfdgebdlgjaa
open Go.RowKit
theorem measureRing_said : Rows.MeasureRingSaid :=
  measureRing.said_of_walk fun a0 len0 cap0 z0 w h => (ring_walk a0 len0 cap0 z0 w h).mono fun _ _ ⟨h1, h2⟩ => ⟨h1, h2.below⟩
end Go.Proofs.Ytholfdgebdlgjaa
