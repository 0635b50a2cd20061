/- MeasureIdle holds: without an idle reading each bound is the same, without another one some bound is wider, and a reading that is there twice is idle. No conditions. -/
import Derived.Test.YtholfdgebdlgjaaLIdl
import Derived.Test.YtholfdgebdlgjaaFrMeasureIdle
namespace Go.Proofs.Ytholfdgebdlgjaa
open Go.RowKit
theorem measureIdle_said : Rows.MeasureIdleSaid :=
  measureIdle.said_of_walk fun a0 len0 cap0 z0 w h => (idle_walk a0 len0 cap0 z0 w h).mono fun _ _ ⟨h1, h2⟩ => ⟨h1, h2.below⟩
end Go.Proofs.Ytholfdgebdlgjaa
