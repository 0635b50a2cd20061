/- The law MeasureLeast holds: the least numbers are a truth. No conditions. -/
import Derived.Test.YtholfdgebdlgjaaLLea
import Derived.Test.YtholfdgebdlgjaaFrMeasureLeast
namespace Go.Proofs.Ytholfdgebdlgjaa
open Go.RowKit
theorem measureLeast_said : Rows.MeasureLeastSaid :=
  measureLeast.said_of_walk fun a0 len0 cap0 z0 w h => (least_walk a0 len0 cap0 z0 w h).mono fun _ _ ⟨h1, h2⟩ => ⟨h1, h2.below⟩
end Go.Proofs.Ytholfdgebdlgjaa
