/- MeasureWider holds: of two singers at most one is always wider, and Wider is what Apart says. No conditions. -/
import Derived.Test.YtholfdgebdlgjaaLWid
import Derived.Test.YtholfdgebdlgjaaFrMeasureWider
namespace Go.Proofs.Ytholfdgebdlgjaa
open Go.RowKit
theorem measureWider_said : Rows.MeasureWiderSaid :=
  measureWider.said_of_walk fun a0 len0 cap0 z0 w h => (wider_walk a0 len0 cap0 z0 w h).mono fun _ _ ⟨h1, h2⟩ => ⟨h1, h2.below⟩
end Go.Proofs.Ytholfdgebdlgjaa
