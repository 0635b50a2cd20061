/- The law DyeSpare returns true at every input, and leaves it as it was. No conditions. -/
import Derived.Test.YtdjeecgddbjbeaaLDspM
import Derived.Test.YtdjeecgddbjbeaaFrDyeSpare
namespace Go.Proofs.Ytdjeecgddbjbeaa
open Go.RowKit
theorem dyeSpare_said : Rows.DyeSpareSaid :=
  dyeSpare.said_of_walk fun a0 len0 cap0 z0 w h => (dyeSpare_walk a0 len0 cap0 z0 w h).mono fun _ _ ⟨h1, h2⟩ => ⟨h1, h2.below⟩
end Go.Proofs.Ytdjeecgddbjbeaa
