/- The law DyeCorrect of the given program: with what Correct adds the bath matches, and nothing less does; whatever the numbers. No conditions. -/
import Derived.Test.YtdjeecgddbjbeaaLDco
import Derived.Test.YtdjeecgddbjbeaaFrDyeCorrect
namespace Go.Proofs.Ytdjeecgddbjbeaa
open Go.RowKit
theorem dyeCorrect_said : Rows.DyeCorrectSaid :=
  dyeCorrect.said_of_walk fun a0 len0 cap0 z0 w h => (dyeCorrect_walk a0 len0 cap0 z0 w h).mono fun _ _ ⟨h1, h2⟩ => ⟨h1, h2.below⟩
end Go.Proofs.Ytdjeecgddbjbeaa
