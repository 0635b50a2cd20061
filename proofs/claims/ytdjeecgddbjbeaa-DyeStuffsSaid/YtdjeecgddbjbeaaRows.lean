/-
  No cell of these rows narrows 'for every input' (looked for: loops, veiled, ifaces, maps, wideKeys, modest, calm, conditions, laid).
  DERIVED. THE GIVEN ROWS OF THIS SEAT. 8 by the template 'for every input the law returns true; each argument reads behind the call as it read before'; 0 by the template 'total and deterministic' (their statements: YtdjeecgddbjbeaaTotals.lean).
  GIVEN WITH THE SEED: the statements are not yours to turn. If you find one false, say at which input.
  Laid BY PROGRAM, IN A SANDBOX (cutbox-rows.mjs): the forced cells as the released guide's own fill.sh prints them over the translation 7b4ee907d0355899… (all of the seat's roots in one cut). By AI agents, Wed Nov 11 2026. No macro, syntax, notation, axiom, sorry.
-/
import Derived.Test.YtdjeecgddbjbeaaChecked
import GoSem.Claim
import GoSem.ClaimJoined
import GoSem.ClaimMapViews
import Derived.JoinedTies
import Derived.KernelRfl
namespace Go.Proofs.Ytdjeecgddbjbeaa
/- THE CELL 'sum', in the pinned program and in every row, IS THE sha256 OF THE DUMP (.gsa) THAT YtdjeecgddbjbeaaProg.lean LOADS. Nothing in Lean hashes anything: it is a label: what it is worth is what the hold of that sum in a sandbox is worth. -/
noncomputable def Try.pinned : Pinned := { name := "ytdjeecgddbjbeaa", sum := "7b4ee907d0355899dfdabc8cf24379d81ea5de96cd748b03997c8f8c239edd8f", checked := Try.checked }
namespace Rows
def none {H : Type} : Left H := { results := [], args := [] }

/-- 'galloonlaw06.DyeCorrects': WHATEVER THE INPUT: true; the input reads as it did. -/
def dyeCorrectsSpec : ChangeSpec := { name := "dyeCorrects", fn := fun _ => fun
  | [d1, d2, d3, d4, d5] => { results := [.lit (.bool true)], args := [d1, d2, d3, d4, d5] }
  | _ => none }
def dyeCorrectsRow : OpenClaim := { program := "ytdjeecgddbjbeaa", sum := "7b4ee907d0355899dfdabc8cf24379d81ea5de96cd748b03997c8f8c239edd8f", func := "galloon/galloonlaw06.DyeCorrects", spec := "dyeCorrects", unfollowed := true, recurses := true, plainKeys := false, apart := false }
def DyeCorrectsSaid : Prop := dyeCorrectsRow.holds Try.pinned (OpenSpec.ofChange dyeCorrectsSpec)

/-- ITS FALSE NEIGHBOUR: 'it returns false'. Refute it at one input. -/
def dyeCorrectsWrong : ChangeSpec := { name := "dyeCorrects", fn := fun _ => fun
  | [d1, d2, d3, d4, d5] => { results := [.lit (.bool false)], args := [d1, d2, d3, d4, d5] }
  | _ => none }
def DyeCorrectsWrongFalsely : Prop := dyeCorrectsRow.holds Try.pinned (OpenSpec.ofChange dyeCorrectsWrong)

/-- 'galloonlaw06.DyeStuffs': WHATEVER THE INPUT: true; the input reads as it did. -/
def dyeStuffsSpec : ChangeSpec := { name := "dyeStuffs", fn := fun _ => fun
  | [d1, d2, d3, d4, d5] => { results := [.lit (.bool true)], args := [d1, d2, d3, d4, d5] }
  | _ => none }
def dyeStuffsRow : OpenClaim := { program := "ytdjeecgddbjbeaa", sum := "7b4ee907d0355899dfdabc8cf24379d81ea5de96cd748b03997c8f8c239edd8f", func := "galloon/galloonlaw06.DyeStuffs", spec := "dyeStuffs", unfollowed := true, recurses := true, plainKeys := false, apart := false }
def DyeStuffsSaid : Prop := dyeStuffsRow.holds Try.pinned (OpenSpec.ofChange dyeStuffsSpec)

/-- ITS FALSE NEIGHBOUR: 'it returns false'. Refute it at one input. -/
def dyeStuffsWrong : ChangeSpec := { name := "dyeStuffs", fn := fun _ => fun
  | [d1, d2, d3, d4, d5] => { results := [.lit (.bool false)], args := [d1, d2, d3, d4, d5] }
  | _ => none }
def DyeStuffsWrongFalsely : Prop := dyeStuffsRow.holds Try.pinned (OpenSpec.ofChange dyeStuffsWrong)

/-- 'galloonlaw06.DyeCorrect': WHATEVER THE INPUT: true; the input reads as it did. -/
def dyeCorrectSpec : ChangeSpec := { name := "dyeCorrect", fn := fun _ => fun
  | [d] => { results := [.lit (.bool true)], args := [d] }
  | _ => none }
def dyeCorrectRow : OpenClaim := { program := "ytdjeecgddbjbeaa", sum := "7b4ee907d0355899dfdabc8cf24379d81ea5de96cd748b03997c8f8c239edd8f", func := "galloon/galloonlaw06.DyeCorrect", spec := "dyeCorrect", unfollowed := true, recurses := true, plainKeys := false, apart := false }
def DyeCorrectSaid : Prop := dyeCorrectRow.holds Try.pinned (OpenSpec.ofChange dyeCorrectSpec)

/-- ITS FALSE NEIGHBOUR: 'it returns false'. Refute it at one input. -/
def dyeCorrectWrong : ChangeSpec := { name := "dyeCorrect", fn := fun _ => fun
  | [d] => { results := [.lit (.bool false)], args := [d] }
  | _ => none }
def DyeCorrectWrongFalsely : Prop := dyeCorrectRow.holds Try.pinned (OpenSpec.ofChange dyeCorrectWrong)

/-- 'galloonlaw06.DyeRecipe': WHATEVER THE INPUT: true; the input reads as it did. -/
def dyeRecipeSpec : ChangeSpec := { name := "dyeRecipe", fn := fun _ => fun
  | [d] => { results := [.lit (.bool true)], args := [d] }
  | _ => none }
def dyeRecipeRow : OpenClaim := { program := "ytdjeecgddbjbeaa", sum := "7b4ee907d0355899dfdabc8cf24379d81ea5de96cd748b03997c8f8c239edd8f", func := "galloon/galloonlaw06.DyeRecipe", spec := "dyeRecipe", unfollowed := true, recurses := true, plainKeys := false, apart := false }
def DyeRecipeSaid : Prop := dyeRecipeRow.holds Try.pinned (OpenSpec.ofChange dyeRecipeSpec)

/-- ITS FALSE NEIGHBOUR: 'it returns false'. Refute it at one input. -/
def dyeRecipeWrong : ChangeSpec := { name := "dyeRecipe", fn := fun _ => fun
  | [d] => { results := [.lit (.bool false)], args := [d] }
  | _ => none }
def DyeRecipeWrongFalsely : Prop := dyeRecipeRow.holds Try.pinned (OpenSpec.ofChange dyeRecipeWrong)

/-- 'galloonlaw06.DyeFewest': WHATEVER THE INPUT: true; the input reads as it did. -/
def dyeFewestSpec : ChangeSpec := { name := "dyeFewest", fn := fun _ => fun
  | [d] => { results := [.lit (.bool true)], args := [d] }
  | _ => none }
def dyeFewestRow : OpenClaim := { program := "ytdjeecgddbjbeaa", sum := "7b4ee907d0355899dfdabc8cf24379d81ea5de96cd748b03997c8f8c239edd8f", func := "galloon/galloonlaw06.DyeFewest", spec := "dyeFewest", unfollowed := true, recurses := true, plainKeys := false, apart := false }
def DyeFewestSaid : Prop := dyeFewestRow.holds Try.pinned (OpenSpec.ofChange dyeFewestSpec)

/-- ITS FALSE NEIGHBOUR: 'it returns false'. Refute it at one input. -/
def dyeFewestWrong : ChangeSpec := { name := "dyeFewest", fn := fun _ => fun
  | [d] => { results := [.lit (.bool false)], args := [d] }
  | _ => none }
def DyeFewestWrongFalsely : Prop := dyeFewestRow.holds Try.pinned (OpenSpec.ofChange dyeFewestWrong)

/-- 'galloonlaw06.DyeWider': WHATEVER THE INPUT: true; the input reads as it did. -/
def dyeWiderSpec : ChangeSpec := { name := "dyeWider", fn := fun _ => fun
  | [d] => { results := [.lit (.bool true)], args := [d] }
  | _ => none }
def dyeWiderRow : OpenClaim := { program := "ytdjeecgddbjbeaa", sum := "7b4ee907d0355899dfdabc8cf24379d81ea5de96cd748b03997c8f8c239edd8f", func := "galloon/galloonlaw06.DyeWider", spec := "dyeWider", unfollowed := true, recurses := true, plainKeys := false, apart := false }
def DyeWiderSaid : Prop := dyeWiderRow.holds Try.pinned (OpenSpec.ofChange dyeWiderSpec)

/-- ITS FALSE NEIGHBOUR: 'it returns false'. Refute it at one input. -/
def dyeWiderWrong : ChangeSpec := { name := "dyeWider", fn := fun _ => fun
  | [d] => { results := [.lit (.bool false)], args := [d] }
  | _ => none }
def DyeWiderWrongFalsely : Prop := dyeWiderRow.holds Try.pinned (OpenSpec.ofChange dyeWiderWrong)

/-- 'galloonlaw06.DyeNeed': WHATEVER THE INPUT: true; the input reads as it did. -/
def dyeNeedSpec : ChangeSpec := { name := "dyeNeed", fn := fun _ => fun
  | [d] => { results := [.lit (.bool true)], args := [d] }
  | _ => none }
def dyeNeedRow : OpenClaim := { program := "ytdjeecgddbjbeaa", sum := "7b4ee907d0355899dfdabc8cf24379d81ea5de96cd748b03997c8f8c239edd8f", func := "galloon/galloonlaw06.DyeNeed", spec := "dyeNeed", unfollowed := true, recurses := true, plainKeys := false, apart := false }
def DyeNeedSaid : Prop := dyeNeedRow.holds Try.pinned (OpenSpec.ofChange dyeNeedSpec)

/-- ITS FALSE NEIGHBOUR: 'it returns false'. Refute it at one input. -/
def dyeNeedWrong : ChangeSpec := { name := "dyeNeed", fn := fun _ => fun
  | [d] => { results := [.lit (.bool false)], args := [d] }
  | _ => none }
def DyeNeedWrongFalsely : Prop := dyeNeedRow.holds Try.pinned (OpenSpec.ofChange dyeNeedWrong)

/-- 'galloonlaw06.DyeSpare': WHATEVER THE INPUT: true; the input reads as it did. -/
def dyeSpareSpec : ChangeSpec := { name := "dyeSpare", fn := fun _ => fun
  | [d] => { results := [.lit (.bool true)], args := [d] }
  | _ => none }
def dyeSpareRow : OpenClaim := { program := "ytdjeecgddbjbeaa", sum := "7b4ee907d0355899dfdabc8cf24379d81ea5de96cd748b03997c8f8c239edd8f", func := "galloon/galloonlaw06.DyeSpare", spec := "dyeSpare", unfollowed := true, recurses := true, plainKeys := false, apart := false }
def DyeSpareSaid : Prop := dyeSpareRow.holds Try.pinned (OpenSpec.ofChange dyeSpareSpec)

/-- ITS FALSE NEIGHBOUR: 'it returns false'. Refute it at one input. -/
def dyeSpareWrong : ChangeSpec := { name := "dyeSpare", fn := fun _ => fun
  | [d] => { results := [.lit (.bool false)], args := [d] }
  | _ => none }
def DyeSpareWrongFalsely : Prop := dyeSpareRow.holds Try.pinned (OpenSpec.ofChange dyeSpareWrong)

/- THE SECOND FORM. 'bulk': how many values and letters a reading holds, each counted each time it is reached (what is shared counts as often as it is met; a slice's spare places count too). A statement '..UptoSaid' is the law's where the arguments, and the package variables that the reading takes, are together of bulk at most 1048576: NARROWER than '..Said'. Prove '..Said' where nothing that the law and all that it calls make is longer than what came in: it says more and counts as full. Else prove '..UptoSaid'. A law counts once. -/
mutual
def uptoBulk {H : Type} : DataW H → Nat
  | .lit (.string bytes) => bytes.length + 1
  | .lit _ => 1
  | .nil => 1
  | .ptr d => uptoBulk d + 1
  | .slice elems spare => uptoBulkAll elems + uptoBulkAll spare + 1
  | .agg parts => uptoBulkAll parts + 1
  | .iface _ d => uptoBulk d + 1
  | .map entries => uptoBulkEntries entries + 1
  | .held _ => 1
def uptoBulkAll {H : Type} : List (DataW H) → Nat
  | [] => 0
  | d :: r => uptoBulk d + uptoBulkAll r
def uptoBulkEntries {H : Type} : List (Lit × DataW H) → Nat
  | [] => 0
  | x :: r => uptoBulkEntry x + uptoBulkEntries r
def uptoBulkEntry {H : Type} : Lit × DataW H → Nat
  | (.string bytes, d) => bytes.length + uptoBulk d + 1
  | (_, d) => uptoBulk d + 1
 end
def uptoSmall : (H : Type) → List (DataW H) → Bool := fun _ ds => decide (uptoBulkAll ds ≤ 1048576)
def OpenSpec.upto (s : _root_.Go.ChangeSpec) : _root_.Go.OpenSpec := { _root_.Go.OpenSpec.ofChange s with cond := some uptoSmall }

/-- 'galloonlaw06.DyeCorrects', WHERE WHAT IT READS IS OF BULK AT MOST 1048576: true; the input reads as it did. -/
def dyeCorrectsUptoRow : OpenClaim := { program := "ytdjeecgddbjbeaa", sum := "7b4ee907d0355899dfdabc8cf24379d81ea5de96cd748b03997c8f8c239edd8f", func := "galloon/galloonlaw06.DyeCorrects", spec := "dyeCorrects", unfollowed := true, recurses := true, plainKeys := false, apart := false, narrowed := true }
def DyeCorrectsUptoSaid : Prop := dyeCorrectsUptoRow.holds Try.pinned (OpenSpec.upto dyeCorrectsSpec)

/-- 'galloonlaw06.DyeStuffs', WHERE WHAT IT READS IS OF BULK AT MOST 1048576: true; the input reads as it did. -/
def dyeStuffsUptoRow : OpenClaim := { program := "ytdjeecgddbjbeaa", sum := "7b4ee907d0355899dfdabc8cf24379d81ea5de96cd748b03997c8f8c239edd8f", func := "galloon/galloonlaw06.DyeStuffs", spec := "dyeStuffs", unfollowed := true, recurses := true, plainKeys := false, apart := false, narrowed := true }
def DyeStuffsUptoSaid : Prop := dyeStuffsUptoRow.holds Try.pinned (OpenSpec.upto dyeStuffsSpec)

/-- 'galloonlaw06.DyeCorrect', WHERE WHAT IT READS IS OF BULK AT MOST 1048576: true; the input reads as it did. -/
def dyeCorrectUptoRow : OpenClaim := { program := "ytdjeecgddbjbeaa", sum := "7b4ee907d0355899dfdabc8cf24379d81ea5de96cd748b03997c8f8c239edd8f", func := "galloon/galloonlaw06.DyeCorrect", spec := "dyeCorrect", unfollowed := true, recurses := true, plainKeys := false, apart := false, narrowed := true }
def DyeCorrectUptoSaid : Prop := dyeCorrectUptoRow.holds Try.pinned (OpenSpec.upto dyeCorrectSpec)

/-- 'galloonlaw06.DyeRecipe', WHERE WHAT IT READS IS OF BULK AT MOST 1048576: true; the input reads as it did. -/
def dyeRecipeUptoRow : OpenClaim := { program := "ytdjeecgddbjbeaa", sum := "7b4ee907d0355899dfdabc8cf24379d81ea5de96cd748b03997c8f8c239edd8f", func := "galloon/galloonlaw06.DyeRecipe", spec := "dyeRecipe", unfollowed := true, recurses := true, plainKeys := false, apart := false, narrowed := true }
def DyeRecipeUptoSaid : Prop := dyeRecipeUptoRow.holds Try.pinned (OpenSpec.upto dyeRecipeSpec)

/-- 'galloonlaw06.DyeFewest', WHERE WHAT IT READS IS OF BULK AT MOST 1048576: true; the input reads as it did. -/
def dyeFewestUptoRow : OpenClaim := { program := "ytdjeecgddbjbeaa", sum := "7b4ee907d0355899dfdabc8cf24379d81ea5de96cd748b03997c8f8c239edd8f", func := "galloon/galloonlaw06.DyeFewest", spec := "dyeFewest", unfollowed := true, recurses := true, plainKeys := false, apart := false, narrowed := true }
def DyeFewestUptoSaid : Prop := dyeFewestUptoRow.holds Try.pinned (OpenSpec.upto dyeFewestSpec)

/-- 'galloonlaw06.DyeWider', WHERE WHAT IT READS IS OF BULK AT MOST 1048576: true; the input reads as it did. -/
def dyeWiderUptoRow : OpenClaim := { program := "ytdjeecgddbjbeaa", sum := "7b4ee907d0355899dfdabc8cf24379d81ea5de96cd748b03997c8f8c239edd8f", func := "galloon/galloonlaw06.DyeWider", spec := "dyeWider", unfollowed := true, recurses := true, plainKeys := false, apart := false, narrowed := true }
def DyeWiderUptoSaid : Prop := dyeWiderUptoRow.holds Try.pinned (OpenSpec.upto dyeWiderSpec)

/-- 'galloonlaw06.DyeNeed', WHERE WHAT IT READS IS OF BULK AT MOST 1048576: true; the input reads as it did. -/
def dyeNeedUptoRow : OpenClaim := { program := "ytdjeecgddbjbeaa", sum := "7b4ee907d0355899dfdabc8cf24379d81ea5de96cd748b03997c8f8c239edd8f", func := "galloon/galloonlaw06.DyeNeed", spec := "dyeNeed", unfollowed := true, recurses := true, plainKeys := false, apart := false, narrowed := true }
def DyeNeedUptoSaid : Prop := dyeNeedUptoRow.holds Try.pinned (OpenSpec.upto dyeNeedSpec)

/-- 'galloonlaw06.DyeSpare', WHERE WHAT IT READS IS OF BULK AT MOST 1048576: true; the input reads as it did. -/
def dyeSpareUptoRow : OpenClaim := { program := "ytdjeecgddbjbeaa", sum := "7b4ee907d0355899dfdabc8cf24379d81ea5de96cd748b03997c8f8c239edd8f", func := "galloon/galloonlaw06.DyeSpare", spec := "dyeSpare", unfollowed := true, recurses := true, plainKeys := false, apart := false, narrowed := true }
def DyeSpareUptoSaid : Prop := dyeSpareUptoRow.holds Try.pinned (OpenSpec.upto dyeSpareSpec)

end Rows
end Go.Proofs.Ytdjeecgddbjbeaa
