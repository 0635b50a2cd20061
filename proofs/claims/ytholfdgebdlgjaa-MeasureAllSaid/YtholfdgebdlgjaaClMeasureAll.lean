/- MeasureAll holds: Can, Measure, Pull and Apart are just what all truths say. No conditions. -/
import Derived.Test.YtholfdgebdlgjaaLAllM
import Derived.Test.YtholfdgebdlgjaaFrMeasureAll
namespace Go.Proofs.Ytholfdgebdlgjaa
open Go.RowKit
theorem measureAll_said : Rows.MeasureAllSaid :=
  measureAll.said_of_walk fun a0 len0 cap0 z0 w h => (all_walk a0 len0 cap0 z0 w h).mono fun _ _ ⟨h1, h2⟩ => ⟨h1, h2.below⟩
end Go.Proofs.Ytholfdgebdlgjaa
