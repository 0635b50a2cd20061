/- The law DyeRecipe of the given program: Recipes is just all recipes in lowest terms that match; whatever the numbers. No conditions. -/
import Derived.Test.YtdjeecgddbjbeaaLDre
import Derived.Test.YtdjeecgddbjbeaaFrDyeRecipe
namespace Go.Proofs.Ytdjeecgddbjbeaa
open Go.RowKit
theorem dyeRecipe_said : Rows.DyeRecipeSaid :=
  dyeRecipe.said_of_walk fun a0 len0 cap0 z0 w h => (dyeRecipe_walk a0 len0 cap0 z0 w h).mono fun _ _ ⟨h1, h2⟩ => ⟨h1, h2.below⟩
end Go.Proofs.Ytdjeecgddbjbeaa
