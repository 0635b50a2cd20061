/- MeasureTurned: if Body and Tapes are replaced by a number less them, and Pull, Grow and Apart by their negatives, so is each measure, and each pull is its negative. No conditions. -/
import Derived.Test.YtholfdgebdlgjaaLTur
import Derived.Test.YtholfdgebdlgjaaFrMeasureTurned
namespace Go.Proofs.Ytholfdgebdlgjaa
open Go.RowKit
theorem measureTurned_said : Rows.MeasureTurnedSaid :=
  measureTurned.said_of_walk fun a0 len0 cap0 z0 w h => (turned_walk a0 len0 cap0 z0 w h).mono fun _ _ ⟨h1, h2⟩ => ⟨h1, h2.below⟩
end Go.Proofs.Ytholfdgebdlgjaa
