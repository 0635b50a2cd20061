/- MeasureFixed holds: Fixed has just the measures whose bounds are one number. No conditions. -/
import Derived.Test.YtholfdgebdlgjaaLFix
import Derived.Test.YtholfdgebdlgjaaFrMeasureFixed
namespace Go.Proofs.Ytholfdgebdlgjaa
open Go.RowKit
theorem measureFixed_said : Rows.MeasureFixedSaid :=
  measureFixed.said_of_walk fun a0 len0 cap0 z0 w h => (fixed_walk a0 len0 cap0 z0 w h).mono fun _ _ ⟨h1, h2⟩ => ⟨h1, h2.below⟩
end Go.Proofs.Ytholfdgebdlgjaa
