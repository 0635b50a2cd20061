/- The law DyeFewest of the given program: Fewest is one of Recipes, and none of these has fewer dyes, nor as many and fewer parts, nor as many of both and comes before; whatever the numbers. No conditions. -/
import Derived.Test.YtdjeecgddbjbeaaLDfw
import Derived.Test.YtdjeecgddbjbeaaFrDyeFewest
namespace Go.Proofs.Ytdjeecgddbjbeaa
open Go.RowKit
theorem dyeFewest_said : Rows.DyeFewestSaid :=
  dyeFewest.said_of_walk fun a0 len0 cap0 z0 w h => (dyeFewest_walk a0 len0 cap0 z0 w h).mono fun _ _ ⟨h1, h2⟩ => ⟨h1, h2.below⟩
end Go.Proofs.Ytdjeecgddbjbeaa
