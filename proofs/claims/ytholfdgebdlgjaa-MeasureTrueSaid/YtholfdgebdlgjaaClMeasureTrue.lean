/- MeasureTrue: measures, pulls and differences lie within all bounds if tapes were read of them, and then nothing is wrong. No conditions. -/
import Derived.Test.YtholfdgebdlgjaaLTru
import Derived.Test.YtholfdgebdlgjaaFrMeasureTrue
namespace Go.Proofs.Ytholfdgebdlgjaa
open Go.RowKit
theorem measureTrue_said : Rows.MeasureTrueSaid :=
  measureTrue.said_of_walk fun a0 len0 cap0 z0 w h => (true_walk a0 len0 cap0 z0 w h).mono fun _ _ ⟨h1, h2⟩ => ⟨h1, h2.below⟩
end Go.Proofs.Ytholfdgebdlgjaa
