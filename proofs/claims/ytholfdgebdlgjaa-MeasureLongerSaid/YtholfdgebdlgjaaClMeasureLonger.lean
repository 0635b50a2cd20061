/- MeasureLonger: if Body and all Tapes are greater by a number, so is each measure, and each pull is the same. No conditions. -/
import Derived.Test.YtholfdgebdlgjaaLLon
import Derived.Test.YtholfdgebdlgjaaFrMeasureLonger
namespace Go.Proofs.Ytholfdgebdlgjaa
open Go.RowKit
theorem measureLonger_said : Rows.MeasureLongerSaid :=
  measureLonger.said_of_walk fun a0 len0 cap0 z0 w h => (longer_walk a0 len0 cap0 z0 w h).mono fun _ _ ⟨h1, h2⟩ => ⟨h1, h2.below⟩
end Go.Proofs.Ytholfdgebdlgjaa
