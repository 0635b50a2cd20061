/- The law DyeWider returns true at every input, and leaves it as it was. No conditions. -/
import Derived.Test.YtdjeecgddbjbeaaLDwi
import Derived.Test.YtdjeecgddbjbeaaFrDyeWider
namespace Go.Proofs.Ytdjeecgddbjbeaa
open Go.RowKit
theorem dyeWider_said : Rows.DyeWiderSaid :=
  dyeWider.said_of_walk fun a0 len0 cap0 z0 w h => (dyeWider_walk a0 len0 cap0 z0 w h).mono fun _ _ ⟨h1, h2⟩ => ⟨h1, h2.below⟩
end Go.Proofs.Ytdjeecgddbjbeaa
