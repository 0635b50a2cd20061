/- MeasureAdded: Add refuses just the readings that no truth has, and returns the tapes with the reading otherwise. No conditions. -/
import Derived.Test.YtholfdgebdlgjaaLAdd
import Derived.Test.YtholfdgebdlgjaaFrMeasureAdded
namespace Go.Proofs.Ytholfdgebdlgjaa
open Go.RowKit
theorem measureAdded_said : Rows.MeasureAddedSaid :=
  measureAdded.said_of_walk fun a0 len0 cap0 z0 w h => (added_walk a0 len0 cap0 z0 w h).mono fun _ _ ⟨h1, h2⟩ => ⟨h1, h2.below⟩
end Go.Proofs.Ytholfdgebdlgjaa
