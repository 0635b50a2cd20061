/- The law DyeNeed returns true at every input, and leaves it as it was. No conditions. -/
import Derived.Test.YtdjeecgddbjbeaaLDne
import Derived.Test.YtdjeecgddbjbeaaFrDyeNeed
namespace Go.Proofs.Ytdjeecgddbjbeaa
open Go.RowKit
theorem dyeNeed_said : Rows.DyeNeedSaid :=
  dyeNeed.said_of_walk fun a0 len0 cap0 z0 w h => (dyeNeed_walk a0 len0 cap0 z0 w h).mono fun _ _ ⟨h1, h2⟩ => ⟨h1, h2.below⟩
end Go.Proofs.Ytdjeecgddbjbeaa
