/- MeasureApart: Apart the other way round, by way of a third measure, and within what Measure leaves. No conditions. -/
import Derived.Test.YtholfdgebdlgjaaLApt
import Derived.Test.YtholfdgebdlgjaaFrMeasureApart
namespace Go.Proofs.Ytholfdgebdlgjaa
open Go.RowKit
theorem measureApart_said : Rows.MeasureApartSaid :=
  measureApart.said_of_walk fun a0 len0 cap0 z0 w h => (apart_walk a0 len0 cap0 z0 w h).mono fun _ _ ⟨h1, h2⟩ => ⟨h1, h2.below⟩
end Go.Proofs.Ytholfdgebdlgjaa
