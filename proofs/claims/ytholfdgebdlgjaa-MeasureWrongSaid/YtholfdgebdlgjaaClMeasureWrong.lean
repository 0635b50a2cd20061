/- The law MeasureWrong holds: no fewer readings are wrong. No conditions. -/
import Derived.Test.YtholfdgebdlgjaaLWro
import Derived.Test.YtholfdgebdlgjaaFrMeasureWrong
namespace Go.Proofs.Ytholfdgebdlgjaa
open Go.RowKit
theorem measureWrong_said : Rows.MeasureWrongSaid :=
  measureWrong.said_of_walk fun a0 len0 cap0 z0 w h => (wrong_walk a0 len0 cap0 z0 w h).mono fun _ _ ⟨h1, h2⟩ => ⟨h1, h2.below⟩
end Go.Proofs.Ytholfdgebdlgjaa
