/-
  No cell of these rows narrows 'for every input' (looked for: loops, veiled, ifaces, maps, wideKeys, modest, calm, conditions, laid).
  DERIVED. THE GIVEN ROWS OF THIS SEAT. 21 by the template 'for every input the law returns true; each argument reads behind the call as it read before'; 0 by the template 'total and deterministic' (their statements: YtholfdgebdlgjaaTotals.lean).
  GIVEN WITH THE SEED: the statements are not yours to turn. If you find one false, say at which input.
  Laid BY PROGRAM, IN A SANDBOX (cutbox-rows.mjs): the forced cells as the released guide's own fill.sh prints them over the translation be9bd9ce71a9541d… (all of the seat's roots in one cut). By AI agents, Wed Nov 11 2026. No macro, syntax, notation, axiom, sorry.
-/
import Derived.Test.YtholfdgebdlgjaaChecked
import GoSem.Claim
import GoSem.ClaimJoined
import GoSem.ClaimMapViews
import Derived.JoinedTies
import Derived.KernelRfl
namespace Go.Proofs.Ytholfdgebdlgjaa
/- THE CELL 'sum', in the pinned program and in every row, IS THE sha256 OF THE DUMP (.gsa) THAT YtholfdgebdlgjaaProg.lean LOADS. Nothing in Lean hashes anything: it is a label: what it is worth is what the hold of that sum in a sandbox is worth. -/
noncomputable def Try.pinned : Pinned := { name := "ytholfdgebdlgjaa", sum := "be9bd9ce71a9541df1dfb7e73da2579833618a765474691d1bffb54380db203c", checked := Try.checked }
namespace Rows
def none {H : Type} : Left H := { results := [], args := [] }

/-- 'galloonlaw01.MeasureBounds': WHATEVER THE INPUT: true; the input reads as it did. -/
def measureBoundsSpec : ChangeSpec := { name := "measureBounds", fn := fun _ => fun
  | [d1, d2, d3, d4, d5] => { results := [.lit (.bool true)], args := [d1, d2, d3, d4, d5] }
  | _ => none }
def measureBoundsRow : OpenClaim := { program := "ytholfdgebdlgjaa", sum := "be9bd9ce71a9541df1dfb7e73da2579833618a765474691d1bffb54380db203c", func := "galloon/galloonlaw01.MeasureBounds", spec := "measureBounds", unfollowed := true, recurses := true, leaving := true, apart := false }
def MeasureBoundsSaid : Prop := measureBoundsRow.holds Try.pinned (OpenSpec.ofChange measureBoundsSpec)

/-- ITS FALSE NEIGHBOUR: 'it returns false'. Refute it at one input. -/
def measureBoundsWrong : ChangeSpec := { name := "measureBounds", fn := fun _ => fun
  | [d1, d2, d3, d4, d5] => { results := [.lit (.bool false)], args := [d1, d2, d3, d4, d5] }
  | _ => none }
def MeasureBoundsWrongFalsely : Prop := measureBoundsRow.holds Try.pinned (OpenSpec.ofChange measureBoundsWrong)

/-- 'galloonlaw01.MeasureNexts': WHATEVER THE INPUT: true; the input reads as it did. -/
def measureNextsSpec : ChangeSpec := { name := "measureNexts", fn := fun _ => fun
  | [d1, d2, d3, d4] => { results := [.lit (.bool true)], args := [d1, d2, d3, d4] }
  | _ => none }
def measureNextsRow : OpenClaim := { program := "ytholfdgebdlgjaa", sum := "be9bd9ce71a9541df1dfb7e73da2579833618a765474691d1bffb54380db203c", func := "galloon/galloonlaw01.MeasureNexts", spec := "measureNexts", unfollowed := true, recurses := true, leaving := true, apart := false }
def MeasureNextsSaid : Prop := measureNextsRow.holds Try.pinned (OpenSpec.ofChange measureNextsSpec)

/-- ITS FALSE NEIGHBOUR: 'it returns false'. Refute it at one input. -/
def measureNextsWrong : ChangeSpec := { name := "measureNexts", fn := fun _ => fun
  | [d1, d2, d3, d4] => { results := [.lit (.bool false)], args := [d1, d2, d3, d4] }
  | _ => none }
def MeasureNextsWrongFalsely : Prop := measureNextsRow.holds Try.pinned (OpenSpec.ofChange measureNextsWrong)

/-- 'galloonlaw01.MeasureAll': WHATEVER THE INPUT: true; the input reads as it did. -/
def measureAllSpec : ChangeSpec := { name := "measureAll", fn := fun _ => fun
  | [d] => { results := [.lit (.bool true)], args := [d] }
  | _ => none }
def measureAllRow : OpenClaim := { program := "ytholfdgebdlgjaa", sum := "be9bd9ce71a9541df1dfb7e73da2579833618a765474691d1bffb54380db203c", func := "galloon/galloonlaw01.MeasureAll", spec := "measureAll", unfollowed := true, recurses := true, leaving := true, apart := false }
def MeasureAllSaid : Prop := measureAllRow.holds Try.pinned (OpenSpec.ofChange measureAllSpec)

/-- ITS FALSE NEIGHBOUR: 'it returns false'. Refute it at one input. -/
def measureAllWrong : ChangeSpec := { name := "measureAll", fn := fun _ => fun
  | [d] => { results := [.lit (.bool false)], args := [d] }
  | _ => none }
def MeasureAllWrongFalsely : Prop := measureAllRow.holds Try.pinned (OpenSpec.ofChange measureAllWrong)

/-- 'galloonlaw01.MeasureApart': WHATEVER THE INPUT: true; the input reads as it did. -/
def measureApartSpec : ChangeSpec := { name := "measureApart", fn := fun _ => fun
  | [d] => { results := [.lit (.bool true)], args := [d] }
  | _ => none }
def measureApartRow : OpenClaim := { program := "ytholfdgebdlgjaa", sum := "be9bd9ce71a9541df1dfb7e73da2579833618a765474691d1bffb54380db203c", func := "galloon/galloonlaw01.MeasureApart", spec := "measureApart", unfollowed := true, recurses := true, leaving := true, apart := false }
def MeasureApartSaid : Prop := measureApartRow.holds Try.pinned (OpenSpec.ofChange measureApartSpec)

/-- ITS FALSE NEIGHBOUR: 'it returns false'. Refute it at one input. -/
def measureApartWrong : ChangeSpec := { name := "measureApart", fn := fun _ => fun
  | [d] => { results := [.lit (.bool false)], args := [d] }
  | _ => none }
def MeasureApartWrongFalsely : Prop := measureApartRow.holds Try.pinned (OpenSpec.ofChange measureApartWrong)

/-- 'galloonlaw01.MeasureRing': WHATEVER THE INPUT: true; the input reads as it did. -/
def measureRingSpec : ChangeSpec := { name := "measureRing", fn := fun _ => fun
  | [d] => { results := [.lit (.bool true)], args := [d] }
  | _ => none }
def measureRingRow : OpenClaim := { program := "ytholfdgebdlgjaa", sum := "be9bd9ce71a9541df1dfb7e73da2579833618a765474691d1bffb54380db203c", func := "galloon/galloonlaw01.MeasureRing", spec := "measureRing", unfollowed := true, recurses := true, leaving := true, apart := false }
def MeasureRingSaid : Prop := measureRingRow.holds Try.pinned (OpenSpec.ofChange measureRingSpec)

/-- ITS FALSE NEIGHBOUR: 'it returns false'. Refute it at one input. -/
def measureRingWrong : ChangeSpec := { name := "measureRing", fn := fun _ => fun
  | [d] => { results := [.lit (.bool false)], args := [d] }
  | _ => none }
def MeasureRingWrongFalsely : Prop := measureRingRow.holds Try.pinned (OpenSpec.ofChange measureRingWrong)

/-- 'galloonlaw01.MeasureMore': WHATEVER THE INPUT: true; the input reads as it did. -/
def measureMoreSpec : ChangeSpec := { name := "measureMore", fn := fun _ => fun
  | [d] => { results := [.lit (.bool true)], args := [d] }
  | _ => none }
def measureMoreRow : OpenClaim := { program := "ytholfdgebdlgjaa", sum := "be9bd9ce71a9541df1dfb7e73da2579833618a765474691d1bffb54380db203c", func := "galloon/galloonlaw01.MeasureMore", spec := "measureMore", unfollowed := true, recurses := true, leaving := true, apart := false }
def MeasureMoreSaid : Prop := measureMoreRow.holds Try.pinned (OpenSpec.ofChange measureMoreSpec)

/-- ITS FALSE NEIGHBOUR: 'it returns false'. Refute it at one input. -/
def measureMoreWrong : ChangeSpec := { name := "measureMore", fn := fun _ => fun
  | [d] => { results := [.lit (.bool false)], args := [d] }
  | _ => none }
def MeasureMoreWrongFalsely : Prop := measureMoreRow.holds Try.pinned (OpenSpec.ofChange measureMoreWrong)

/-- 'galloonlaw01.MeasureNext': WHATEVER THE INPUT: true; the input reads as it did. -/
def measureNextSpec : ChangeSpec := { name := "measureNext", fn := fun _ => fun
  | [d] => { results := [.lit (.bool true)], args := [d] }
  | _ => none }
def measureNextRow : OpenClaim := { program := "ytholfdgebdlgjaa", sum := "be9bd9ce71a9541df1dfb7e73da2579833618a765474691d1bffb54380db203c", func := "galloon/galloonlaw01.MeasureNext", spec := "measureNext", unfollowed := true, recurses := true, leaving := true, apart := false }
def MeasureNextSaid : Prop := measureNextRow.holds Try.pinned (OpenSpec.ofChange measureNextSpec)

/-- ITS FALSE NEIGHBOUR: 'it returns false'. Refute it at one input. -/
def measureNextWrong : ChangeSpec := { name := "measureNext", fn := fun _ => fun
  | [d] => { results := [.lit (.bool false)], args := [d] }
  | _ => none }
def MeasureNextWrongFalsely : Prop := measureNextRow.holds Try.pinned (OpenSpec.ofChange measureNextWrong)

/-- 'galloonlaw01.MeasureLonger': WHATEVER THE INPUT: true; the input reads as it did. -/
def measureLongerSpec : ChangeSpec := { name := "measureLonger", fn := fun _ => fun
  | [d] => { results := [.lit (.bool true)], args := [d] }
  | _ => none }
def measureLongerRow : OpenClaim := { program := "ytholfdgebdlgjaa", sum := "be9bd9ce71a9541df1dfb7e73da2579833618a765474691d1bffb54380db203c", func := "galloon/galloonlaw01.MeasureLonger", spec := "measureLonger", unfollowed := true, recurses := true, leaving := true, apart := false }
def MeasureLongerSaid : Prop := measureLongerRow.holds Try.pinned (OpenSpec.ofChange measureLongerSpec)

/-- ITS FALSE NEIGHBOUR: 'it returns false'. Refute it at one input. -/
def measureLongerWrong : ChangeSpec := { name := "measureLonger", fn := fun _ => fun
  | [d] => { results := [.lit (.bool false)], args := [d] }
  | _ => none }
def MeasureLongerWrongFalsely : Prop := measureLongerRow.holds Try.pinned (OpenSpec.ofChange measureLongerWrong)

/-- 'galloonlaw01.MeasureTurned': WHATEVER THE INPUT: true; the input reads as it did. -/
def measureTurnedSpec : ChangeSpec := { name := "measureTurned", fn := fun _ => fun
  | [d] => { results := [.lit (.bool true)], args := [d] }
  | _ => none }
def measureTurnedRow : OpenClaim := { program := "ytholfdgebdlgjaa", sum := "be9bd9ce71a9541df1dfb7e73da2579833618a765474691d1bffb54380db203c", func := "galloon/galloonlaw01.MeasureTurned", spec := "measureTurned", unfollowed := true, recurses := true, leaving := true, apart := false }
def MeasureTurnedSaid : Prop := measureTurnedRow.holds Try.pinned (OpenSpec.ofChange measureTurnedSpec)

/-- ITS FALSE NEIGHBOUR: 'it returns false'. Refute it at one input. -/
def measureTurnedWrong : ChangeSpec := { name := "measureTurned", fn := fun _ => fun
  | [d] => { results := [.lit (.bool false)], args := [d] }
  | _ => none }
def MeasureTurnedWrongFalsely : Prop := measureTurnedRow.holds Try.pinned (OpenSpec.ofChange measureTurnedWrong)

/-- 'galloonlaw01.MeasureNumbered': WHATEVER THE INPUT: true; the input reads as it did. -/
def measureNumberedSpec : ChangeSpec := { name := "measureNumbered", fn := fun _ => fun
  | [d] => { results := [.lit (.bool true)], args := [d] }
  | _ => none }
def measureNumberedRow : OpenClaim := { program := "ytholfdgebdlgjaa", sum := "be9bd9ce71a9541df1dfb7e73da2579833618a765474691d1bffb54380db203c", func := "galloon/galloonlaw01.MeasureNumbered", spec := "measureNumbered", unfollowed := true, recurses := true, leaving := true, apart := false }
def MeasureNumberedSaid : Prop := measureNumberedRow.holds Try.pinned (OpenSpec.ofChange measureNumberedSpec)

/-- ITS FALSE NEIGHBOUR: 'it returns false'. Refute it at one input. -/
def measureNumberedWrong : ChangeSpec := { name := "measureNumbered", fn := fun _ => fun
  | [d] => { results := [.lit (.bool false)], args := [d] }
  | _ => none }
def MeasureNumberedWrongFalsely : Prop := measureNumberedRow.holds Try.pinned (OpenSpec.ofChange measureNumberedWrong)

/-- 'galloonlaw01.MeasureTrue': WHATEVER THE INPUT: true; the input reads as it did. -/
def measureTrueSpec : ChangeSpec := { name := "measureTrue", fn := fun _ => fun
  | [d] => { results := [.lit (.bool true)], args := [d] }
  | _ => none }
def measureTrueRow : OpenClaim := { program := "ytholfdgebdlgjaa", sum := "be9bd9ce71a9541df1dfb7e73da2579833618a765474691d1bffb54380db203c", func := "galloon/galloonlaw01.MeasureTrue", spec := "measureTrue", unfollowed := true, recurses := true, leaving := true, apart := false }
def MeasureTrueSaid : Prop := measureTrueRow.holds Try.pinned (OpenSpec.ofChange measureTrueSpec)

/-- ITS FALSE NEIGHBOUR: 'it returns false'. Refute it at one input. -/
def measureTrueWrong : ChangeSpec := { name := "measureTrue", fn := fun _ => fun
  | [d] => { results := [.lit (.bool false)], args := [d] }
  | _ => none }
def MeasureTrueWrongFalsely : Prop := measureTrueRow.holds Try.pinned (OpenSpec.ofChange measureTrueWrong)

/-- 'galloonlaw01.MeasureWrong': WHATEVER THE INPUT: true; the input reads as it did. -/
def measureWrongSpec : ChangeSpec := { name := "measureWrong", fn := fun _ => fun
  | [d] => { results := [.lit (.bool true)], args := [d] }
  | _ => none }
def measureWrongRow : OpenClaim := { program := "ytholfdgebdlgjaa", sum := "be9bd9ce71a9541df1dfb7e73da2579833618a765474691d1bffb54380db203c", func := "galloon/galloonlaw01.MeasureWrong", spec := "measureWrong", unfollowed := true, recurses := true, leaving := true, apart := false }
def MeasureWrongSaid : Prop := measureWrongRow.holds Try.pinned (OpenSpec.ofChange measureWrongSpec)

/-- ITS FALSE NEIGHBOUR: 'it returns false'. Refute it at one input. -/
def measureWrongWrong : ChangeSpec := { name := "measureWrong", fn := fun _ => fun
  | [d] => { results := [.lit (.bool false)], args := [d] }
  | _ => none }
def MeasureWrongWrongFalsely : Prop := measureWrongRow.holds Try.pinned (OpenSpec.ofChange measureWrongWrong)

/-- 'galloonlaw01.MeasureFixed': WHATEVER THE INPUT: true; the input reads as it did. -/
def measureFixedSpec : ChangeSpec := { name := "measureFixed", fn := fun _ => fun
  | [d] => { results := [.lit (.bool true)], args := [d] }
  | _ => none }
def measureFixedRow : OpenClaim := { program := "ytholfdgebdlgjaa", sum := "be9bd9ce71a9541df1dfb7e73da2579833618a765474691d1bffb54380db203c", func := "galloon/galloonlaw01.MeasureFixed", spec := "measureFixed", unfollowed := true, recurses := true, leaving := true, apart := false }
def MeasureFixedSaid : Prop := measureFixedRow.holds Try.pinned (OpenSpec.ofChange measureFixedSpec)

/-- ITS FALSE NEIGHBOUR: 'it returns false'. Refute it at one input. -/
def measureFixedWrong : ChangeSpec := { name := "measureFixed", fn := fun _ => fun
  | [d] => { results := [.lit (.bool false)], args := [d] }
  | _ => none }
def MeasureFixedWrongFalsely : Prop := measureFixedRow.holds Try.pinned (OpenSpec.ofChange measureFixedWrong)

/-- 'galloonlaw01.MeasureAparts': WHATEVER THE INPUT: true; the input reads as it did. -/
def measureApartsSpec : ChangeSpec := { name := "measureAparts", fn := fun _ => fun
  | [d1, d2, d3, d4, d5, d6] => { results := [.lit (.bool true)], args := [d1, d2, d3, d4, d5, d6] }
  | _ => none }
def measureApartsRow : OpenClaim := { program := "ytholfdgebdlgjaa", sum := "be9bd9ce71a9541df1dfb7e73da2579833618a765474691d1bffb54380db203c", func := "galloon/galloonlaw01.MeasureAparts", spec := "measureAparts", unfollowed := true, recurses := true, leaving := true, apart := false }
def MeasureApartsSaid : Prop := measureApartsRow.holds Try.pinned (OpenSpec.ofChange measureApartsSpec)

/-- ITS FALSE NEIGHBOUR: 'it returns false'. Refute it at one input. -/
def measureApartsWrong : ChangeSpec := { name := "measureAparts", fn := fun _ => fun
  | [d1, d2, d3, d4, d5, d6] => { results := [.lit (.bool false)], args := [d1, d2, d3, d4, d5, d6] }
  | _ => none }
def MeasureApartsWrongFalsely : Prop := measureApartsRow.holds Try.pinned (OpenSpec.ofChange measureApartsWrong)

/-- 'galloonlaw01.MeasureWider': WHATEVER THE INPUT: true; the input reads as it did. -/
def measureWiderSpec : ChangeSpec := { name := "measureWider", fn := fun _ => fun
  | [d] => { results := [.lit (.bool true)], args := [d] }
  | _ => none }
def measureWiderRow : OpenClaim := { program := "ytholfdgebdlgjaa", sum := "be9bd9ce71a9541df1dfb7e73da2579833618a765474691d1bffb54380db203c", func := "galloon/galloonlaw01.MeasureWider", spec := "measureWider", unfollowed := true, recurses := true, leaving := true, apart := false }
def MeasureWiderSaid : Prop := measureWiderRow.holds Try.pinned (OpenSpec.ofChange measureWiderSpec)

/-- ITS FALSE NEIGHBOUR: 'it returns false'. Refute it at one input. -/
def measureWiderWrong : ChangeSpec := { name := "measureWider", fn := fun _ => fun
  | [d] => { results := [.lit (.bool false)], args := [d] }
  | _ => none }
def MeasureWiderWrongFalsely : Prop := measureWiderRow.holds Try.pinned (OpenSpec.ofChange measureWiderWrong)

/-- 'galloonlaw01.MeasureLeast': WHATEVER THE INPUT: true; the input reads as it did. -/
def measureLeastSpec : ChangeSpec := { name := "measureLeast", fn := fun _ => fun
  | [d] => { results := [.lit (.bool true)], args := [d] }
  | _ => none }
def measureLeastRow : OpenClaim := { program := "ytholfdgebdlgjaa", sum := "be9bd9ce71a9541df1dfb7e73da2579833618a765474691d1bffb54380db203c", func := "galloon/galloonlaw01.MeasureLeast", spec := "measureLeast", unfollowed := true, recurses := true, leaving := true, apart := false }
def MeasureLeastSaid : Prop := measureLeastRow.holds Try.pinned (OpenSpec.ofChange measureLeastSpec)

/-- ITS FALSE NEIGHBOUR: 'it returns false'. Refute it at one input. -/
def measureLeastWrong : ChangeSpec := { name := "measureLeast", fn := fun _ => fun
  | [d] => { results := [.lit (.bool false)], args := [d] }
  | _ => none }
def MeasureLeastWrongFalsely : Prop := measureLeastRow.holds Try.pinned (OpenSpec.ofChange measureLeastWrong)

/-- 'galloonlaw01.MeasureAdded': WHATEVER THE INPUT: true; the input reads as it did. -/
def measureAddedSpec : ChangeSpec := { name := "measureAdded", fn := fun _ => fun
  | [d] => { results := [.lit (.bool true)], args := [d] }
  | _ => none }
def measureAddedRow : OpenClaim := { program := "ytholfdgebdlgjaa", sum := "be9bd9ce71a9541df1dfb7e73da2579833618a765474691d1bffb54380db203c", func := "galloon/galloonlaw01.MeasureAdded", spec := "measureAdded", unfollowed := true, recurses := true, leaving := true, apart := false }
def MeasureAddedSaid : Prop := measureAddedRow.holds Try.pinned (OpenSpec.ofChange measureAddedSpec)

/-- ITS FALSE NEIGHBOUR: 'it returns false'. Refute it at one input. -/
def measureAddedWrong : ChangeSpec := { name := "measureAdded", fn := fun _ => fun
  | [d] => { results := [.lit (.bool false)], args := [d] }
  | _ => none }
def MeasureAddedWrongFalsely : Prop := measureAddedRow.holds Try.pinned (OpenSpec.ofChange measureAddedWrong)

/-- 'galloonlaw01.MeasureIdle': WHATEVER THE INPUT: true; the input reads as it did. -/
def measureIdleSpec : ChangeSpec := { name := "measureIdle", fn := fun _ => fun
  | [d] => { results := [.lit (.bool true)], args := [d] }
  | _ => none }
def measureIdleRow : OpenClaim := { program := "ytholfdgebdlgjaa", sum := "be9bd9ce71a9541df1dfb7e73da2579833618a765474691d1bffb54380db203c", func := "galloon/galloonlaw01.MeasureIdle", spec := "measureIdle", unfollowed := true, recurses := true, leaving := true, apart := false }
def MeasureIdleSaid : Prop := measureIdleRow.holds Try.pinned (OpenSpec.ofChange measureIdleSpec)

/-- ITS FALSE NEIGHBOUR: 'it returns false'. Refute it at one input. -/
def measureIdleWrong : ChangeSpec := { name := "measureIdle", fn := fun _ => fun
  | [d] => { results := [.lit (.bool false)], args := [d] }
  | _ => none }
def MeasureIdleWrongFalsely : Prop := measureIdleRow.holds Try.pinned (OpenSpec.ofChange measureIdleWrong)

/-- 'galloonlaw01.MeasureEnds': WHATEVER THE INPUT: true; the input reads as it did. -/
def measureEndsSpec : ChangeSpec := { name := "measureEnds", fn := fun _ => fun
  | [d1, d2] => { results := [.lit (.bool true)], args := [d1, d2] }
  | _ => none }
def measureEndsRow : OpenClaim := { program := "ytholfdgebdlgjaa", sum := "be9bd9ce71a9541df1dfb7e73da2579833618a765474691d1bffb54380db203c", func := "galloon/galloonlaw01.MeasureEnds", spec := "measureEnds", unfollowed := true, recurses := true, leaving := true, apart := false }
def MeasureEndsSaid : Prop := measureEndsRow.holds Try.pinned (OpenSpec.ofChange measureEndsSpec)

/-- ITS FALSE NEIGHBOUR: 'it returns false'. Refute it at one input. -/
def measureEndsWrong : ChangeSpec := { name := "measureEnds", fn := fun _ => fun
  | [d1, d2] => { results := [.lit (.bool false)], args := [d1, d2] }
  | _ => none }
def MeasureEndsWrongFalsely : Prop := measureEndsRow.holds Try.pinned (OpenSpec.ofChange measureEndsWrong)

/-- 'galloonlaw01.MeasureDoubtful': WHATEVER THE INPUT: true; the input reads as it did. -/
def measureDoubtfulSpec : ChangeSpec := { name := "measureDoubtful", fn := fun _ => fun
  | [d] => { results := [.lit (.bool true)], args := [d] }
  | _ => none }
def measureDoubtfulRow : OpenClaim := { program := "ytholfdgebdlgjaa", sum := "be9bd9ce71a9541df1dfb7e73da2579833618a765474691d1bffb54380db203c", func := "galloon/galloonlaw01.MeasureDoubtful", spec := "measureDoubtful", inPlace := ["(*sync.WaitGroup).Add", "internal/race.ReleaseMerge", "internal/race.Disable", "internal/race.Enable", "internal/synctest.IsInBubble", "internal/synctest.Associate[sync.WaitGroup]", "sync.fatal", "sync/atomic.OrUint64", "sync/atomic.AddUint64", "internal/race.Read", "sync/atomic.LoadUint64", "sync/atomic.StoreUint64", "internal/synctest.Disassociate[sync.WaitGroup]", "sync.runtime_Semrelease", "(*sync.WaitGroup).Done", "(*sync.WaitGroup).Wait", "internal/race.Acquire", "internal/synctest.IsAssociated[sync.WaitGroup]", "sync/atomic.CompareAndSwapUint64", "internal/race.Write", "sync.runtime_SemacquireWaitGroup"], unfollowed := true, recurses := true, leaving := true, apart := false }
def MeasureDoubtfulSaid : Prop := measureDoubtfulRow.holds Try.pinned (OpenSpec.ofChange measureDoubtfulSpec)

/-- ITS FALSE NEIGHBOUR: 'it returns false'. Refute it at one input. -/
def measureDoubtfulWrong : ChangeSpec := { name := "measureDoubtful", fn := fun _ => fun
  | [d] => { results := [.lit (.bool false)], args := [d] }
  | _ => none }
def MeasureDoubtfulWrongFalsely : Prop := measureDoubtfulRow.holds Try.pinned (OpenSpec.ofChange measureDoubtfulWrong)

/-- 'galloonlaw01.MeasureKnown': WHATEVER THE INPUT: true; the input reads as it did. -/
def measureKnownSpec : ChangeSpec := { name := "measureKnown", fn := fun _ => fun
  | [] => { results := [.lit (.bool true)], args := [] }
  | _ => none }
def measureKnownRow : OpenClaim := { program := "ytholfdgebdlgjaa", sum := "be9bd9ce71a9541df1dfb7e73da2579833618a765474691d1bffb54380db203c", func := "galloon/galloonlaw01.MeasureKnown", spec := "measureKnown", inPlace := ["(*sync.WaitGroup).Add", "internal/race.ReleaseMerge", "internal/race.Disable", "internal/race.Enable", "internal/synctest.IsInBubble", "internal/synctest.Associate[sync.WaitGroup]", "sync.fatal", "sync/atomic.OrUint64", "sync/atomic.AddUint64", "internal/race.Read", "sync/atomic.LoadUint64", "sync/atomic.StoreUint64", "internal/synctest.Disassociate[sync.WaitGroup]", "sync.runtime_Semrelease", "(*sync.WaitGroup).Done", "(*sync.WaitGroup).Wait", "internal/race.Acquire", "internal/synctest.IsAssociated[sync.WaitGroup]", "sync/atomic.CompareAndSwapUint64", "internal/race.Write", "sync.runtime_SemacquireWaitGroup"], unfollowed := true, recurses := true, leaving := true, apart := false }
def MeasureKnownSaid : Prop := measureKnownRow.holds Try.pinned (OpenSpec.ofChange measureKnownSpec)

/-- ITS FALSE NEIGHBOUR: 'it returns false'. Refute it at one input. -/
def measureKnownWrong : ChangeSpec := { name := "measureKnown", fn := fun _ => fun
  | [] => { results := [.lit (.bool false)], args := [] }
  | _ => none }
def MeasureKnownWrongFalsely : Prop := measureKnownRow.holds Try.pinned (OpenSpec.ofChange measureKnownWrong)

/- THE SECOND FORM. 'bulk': how many values and letters a reading holds, each counted each time it is reached (what is shared counts as often as it is met; a slice's spare places count too). A statement '..UptoSaid' is the law's where the arguments, and the package variables that the reading takes, are together of bulk at most 1048576: NARROWER than '..Said'. Prove '..Said' where nothing that the law and all that it calls make is longer than what came in: it says more and counts as full. Else prove '..UptoSaid'. A law counts once. -/
mutual
def uptoBulk {H : Type} : DataW H → Nat
  | .lit (.string bytes) => bytes.length + 1
  | .lit _ => 1
  | .nil => 1
  | .ptr d => uptoBulk d + 1
  | .slice elems spare => uptoBulkAll elems + uptoBulkAll spare + 1
  | .agg parts => uptoBulkAll parts + 1
  | .iface _ d => uptoBulk d + 1
  | .map entries => uptoBulkEntries entries + 1
  | .held _ => 1
def uptoBulkAll {H : Type} : List (DataW H) → Nat
  | [] => 0
  | d :: r => uptoBulk d + uptoBulkAll r
def uptoBulkEntries {H : Type} : List (Lit × DataW H) → Nat
  | [] => 0
  | x :: r => uptoBulkEntry x + uptoBulkEntries r
def uptoBulkEntry {H : Type} : Lit × DataW H → Nat
  | (.string bytes, d) => bytes.length + uptoBulk d + 1
  | (_, d) => uptoBulk d + 1
 end
def uptoSmall : (H : Type) → List (DataW H) → Bool := fun _ ds => decide (uptoBulkAll ds ≤ 1048576)
def OpenSpec.upto (s : _root_.Go.ChangeSpec) : _root_.Go.OpenSpec := { _root_.Go.OpenSpec.ofChange s with cond := some uptoSmall }

/-- 'galloonlaw01.MeasureBounds', WHERE WHAT IT READS IS OF BULK AT MOST 1048576: true; the input reads as it did. -/
def measureBoundsUptoRow : OpenClaim := { program := "ytholfdgebdlgjaa", sum := "be9bd9ce71a9541df1dfb7e73da2579833618a765474691d1bffb54380db203c", func := "galloon/galloonlaw01.MeasureBounds", spec := "measureBounds", unfollowed := true, recurses := true, leaving := true, apart := false, narrowed := true }
def MeasureBoundsUptoSaid : Prop := measureBoundsUptoRow.holds Try.pinned (OpenSpec.upto measureBoundsSpec)

/-- 'galloonlaw01.MeasureNexts', WHERE WHAT IT READS IS OF BULK AT MOST 1048576: true; the input reads as it did. -/
def measureNextsUptoRow : OpenClaim := { program := "ytholfdgebdlgjaa", sum := "be9bd9ce71a9541df1dfb7e73da2579833618a765474691d1bffb54380db203c", func := "galloon/galloonlaw01.MeasureNexts", spec := "measureNexts", unfollowed := true, recurses := true, leaving := true, apart := false, narrowed := true }
def MeasureNextsUptoSaid : Prop := measureNextsUptoRow.holds Try.pinned (OpenSpec.upto measureNextsSpec)

/-- 'galloonlaw01.MeasureAll', WHERE WHAT IT READS IS OF BULK AT MOST 1048576: true; the input reads as it did. -/
def measureAllUptoRow : OpenClaim := { program := "ytholfdgebdlgjaa", sum := "be9bd9ce71a9541df1dfb7e73da2579833618a765474691d1bffb54380db203c", func := "galloon/galloonlaw01.MeasureAll", spec := "measureAll", unfollowed := true, recurses := true, leaving := true, apart := false, narrowed := true }
def MeasureAllUptoSaid : Prop := measureAllUptoRow.holds Try.pinned (OpenSpec.upto measureAllSpec)

/-- 'galloonlaw01.MeasureApart', WHERE WHAT IT READS IS OF BULK AT MOST 1048576: true; the input reads as it did. -/
def measureApartUptoRow : OpenClaim := { program := "ytholfdgebdlgjaa", sum := "be9bd9ce71a9541df1dfb7e73da2579833618a765474691d1bffb54380db203c", func := "galloon/galloonlaw01.MeasureApart", spec := "measureApart", unfollowed := true, recurses := true, leaving := true, apart := false, narrowed := true }
def MeasureApartUptoSaid : Prop := measureApartUptoRow.holds Try.pinned (OpenSpec.upto measureApartSpec)

/-- 'galloonlaw01.MeasureRing', WHERE WHAT IT READS IS OF BULK AT MOST 1048576: true; the input reads as it did. -/
def measureRingUptoRow : OpenClaim := { program := "ytholfdgebdlgjaa", sum := "be9bd9ce71a9541df1dfb7e73da2579833618a765474691d1bffb54380db203c", func := "galloon/galloonlaw01.MeasureRing", spec := "measureRing", unfollowed := true, recurses := true, leaving := true, apart := false, narrowed := true }
def MeasureRingUptoSaid : Prop := measureRingUptoRow.holds Try.pinned (OpenSpec.upto measureRingSpec)

/-- 'galloonlaw01.MeasureMore', WHERE WHAT IT READS IS OF BULK AT MOST 1048576: true; the input reads as it did. -/
def measureMoreUptoRow : OpenClaim := { program := "ytholfdgebdlgjaa", sum := "be9bd9ce71a9541df1dfb7e73da2579833618a765474691d1bffb54380db203c", func := "galloon/galloonlaw01.MeasureMore", spec := "measureMore", unfollowed := true, recurses := true, leaving := true, apart := false, narrowed := true }
def MeasureMoreUptoSaid : Prop := measureMoreUptoRow.holds Try.pinned (OpenSpec.upto measureMoreSpec)

/-- 'galloonlaw01.MeasureNext', WHERE WHAT IT READS IS OF BULK AT MOST 1048576: true; the input reads as it did. -/
def measureNextUptoRow : OpenClaim := { program := "ytholfdgebdlgjaa", sum := "be9bd9ce71a9541df1dfb7e73da2579833618a765474691d1bffb54380db203c", func := "galloon/galloonlaw01.MeasureNext", spec := "measureNext", unfollowed := true, recurses := true, leaving := true, apart := false, narrowed := true }
def MeasureNextUptoSaid : Prop := measureNextUptoRow.holds Try.pinned (OpenSpec.upto measureNextSpec)

/-- 'galloonlaw01.MeasureLonger', WHERE WHAT IT READS IS OF BULK AT MOST 1048576: true; the input reads as it did. -/
def measureLongerUptoRow : OpenClaim := { program := "ytholfdgebdlgjaa", sum := "be9bd9ce71a9541df1dfb7e73da2579833618a765474691d1bffb54380db203c", func := "galloon/galloonlaw01.MeasureLonger", spec := "measureLonger", unfollowed := true, recurses := true, leaving := true, apart := false, narrowed := true }
def MeasureLongerUptoSaid : Prop := measureLongerUptoRow.holds Try.pinned (OpenSpec.upto measureLongerSpec)

/-- 'galloonlaw01.MeasureTurned', WHERE WHAT IT READS IS OF BULK AT MOST 1048576: true; the input reads as it did. -/
def measureTurnedUptoRow : OpenClaim := { program := "ytholfdgebdlgjaa", sum := "be9bd9ce71a9541df1dfb7e73da2579833618a765474691d1bffb54380db203c", func := "galloon/galloonlaw01.MeasureTurned", spec := "measureTurned", unfollowed := true, recurses := true, leaving := true, apart := false, narrowed := true }
def MeasureTurnedUptoSaid : Prop := measureTurnedUptoRow.holds Try.pinned (OpenSpec.upto measureTurnedSpec)

/-- 'galloonlaw01.MeasureNumbered', WHERE WHAT IT READS IS OF BULK AT MOST 1048576: true; the input reads as it did. -/
def measureNumberedUptoRow : OpenClaim := { program := "ytholfdgebdlgjaa", sum := "be9bd9ce71a9541df1dfb7e73da2579833618a765474691d1bffb54380db203c", func := "galloon/galloonlaw01.MeasureNumbered", spec := "measureNumbered", unfollowed := true, recurses := true, leaving := true, apart := false, narrowed := true }
def MeasureNumberedUptoSaid : Prop := measureNumberedUptoRow.holds Try.pinned (OpenSpec.upto measureNumberedSpec)

/-- 'galloonlaw01.MeasureTrue', WHERE WHAT IT READS IS OF BULK AT MOST 1048576: true; the input reads as it did. -/
def measureTrueUptoRow : OpenClaim := { program := "ytholfdgebdlgjaa", sum := "be9bd9ce71a9541df1dfb7e73da2579833618a765474691d1bffb54380db203c", func := "galloon/galloonlaw01.MeasureTrue", spec := "measureTrue", unfollowed := true, recurses := true, leaving := true, apart := false, narrowed := true }
def MeasureTrueUptoSaid : Prop := measureTrueUptoRow.holds Try.pinned (OpenSpec.upto measureTrueSpec)

/-- 'galloonlaw01.MeasureWrong', WHERE WHAT IT READS IS OF BULK AT MOST 1048576: true; the input reads as it did. -/
def measureWrongUptoRow : OpenClaim := { program := "ytholfdgebdlgjaa", sum := "be9bd9ce71a9541df1dfb7e73da2579833618a765474691d1bffb54380db203c", func := "galloon/galloonlaw01.MeasureWrong", spec := "measureWrong", unfollowed := true, recurses := true, leaving := true, apart := false, narrowed := true }
def MeasureWrongUptoSaid : Prop := measureWrongUptoRow.holds Try.pinned (OpenSpec.upto measureWrongSpec)

/-- 'galloonlaw01.MeasureFixed', WHERE WHAT IT READS IS OF BULK AT MOST 1048576: true; the input reads as it did. -/
def measureFixedUptoRow : OpenClaim := { program := "ytholfdgebdlgjaa", sum := "be9bd9ce71a9541df1dfb7e73da2579833618a765474691d1bffb54380db203c", func := "galloon/galloonlaw01.MeasureFixed", spec := "measureFixed", unfollowed := true, recurses := true, leaving := true, apart := false, narrowed := true }
def MeasureFixedUptoSaid : Prop := measureFixedUptoRow.holds Try.pinned (OpenSpec.upto measureFixedSpec)

/-- 'galloonlaw01.MeasureAparts', WHERE WHAT IT READS IS OF BULK AT MOST 1048576: true; the input reads as it did. -/
def measureApartsUptoRow : OpenClaim := { program := "ytholfdgebdlgjaa", sum := "be9bd9ce71a9541df1dfb7e73da2579833618a765474691d1bffb54380db203c", func := "galloon/galloonlaw01.MeasureAparts", spec := "measureAparts", unfollowed := true, recurses := true, leaving := true, apart := false, narrowed := true }
def MeasureApartsUptoSaid : Prop := measureApartsUptoRow.holds Try.pinned (OpenSpec.upto measureApartsSpec)

/-- 'galloonlaw01.MeasureWider', WHERE WHAT IT READS IS OF BULK AT MOST 1048576: true; the input reads as it did. -/
def measureWiderUptoRow : OpenClaim := { program := "ytholfdgebdlgjaa", sum := "be9bd9ce71a9541df1dfb7e73da2579833618a765474691d1bffb54380db203c", func := "galloon/galloonlaw01.MeasureWider", spec := "measureWider", unfollowed := true, recurses := true, leaving := true, apart := false, narrowed := true }
def MeasureWiderUptoSaid : Prop := measureWiderUptoRow.holds Try.pinned (OpenSpec.upto measureWiderSpec)

/-- 'galloonlaw01.MeasureLeast', WHERE WHAT IT READS IS OF BULK AT MOST 1048576: true; the input reads as it did. -/
def measureLeastUptoRow : OpenClaim := { program := "ytholfdgebdlgjaa", sum := "be9bd9ce71a9541df1dfb7e73da2579833618a765474691d1bffb54380db203c", func := "galloon/galloonlaw01.MeasureLeast", spec := "measureLeast", unfollowed := true, recurses := true, leaving := true, apart := false, narrowed := true }
def MeasureLeastUptoSaid : Prop := measureLeastUptoRow.holds Try.pinned (OpenSpec.upto measureLeastSpec)

/-- 'galloonlaw01.MeasureAdded', WHERE WHAT IT READS IS OF BULK AT MOST 1048576: true; the input reads as it did. -/
def measureAddedUptoRow : OpenClaim := { program := "ytholfdgebdlgjaa", sum := "be9bd9ce71a9541df1dfb7e73da2579833618a765474691d1bffb54380db203c", func := "galloon/galloonlaw01.MeasureAdded", spec := "measureAdded", unfollowed := true, recurses := true, leaving := true, apart := false, narrowed := true }
def MeasureAddedUptoSaid : Prop := measureAddedUptoRow.holds Try.pinned (OpenSpec.upto measureAddedSpec)

/-- 'galloonlaw01.MeasureIdle', WHERE WHAT IT READS IS OF BULK AT MOST 1048576: true; the input reads as it did. -/
def measureIdleUptoRow : OpenClaim := { program := "ytholfdgebdlgjaa", sum := "be9bd9ce71a9541df1dfb7e73da2579833618a765474691d1bffb54380db203c", func := "galloon/galloonlaw01.MeasureIdle", spec := "measureIdle", unfollowed := true, recurses := true, leaving := true, apart := false, narrowed := true }
def MeasureIdleUptoSaid : Prop := measureIdleUptoRow.holds Try.pinned (OpenSpec.upto measureIdleSpec)

/-- 'galloonlaw01.MeasureEnds', WHERE WHAT IT READS IS OF BULK AT MOST 1048576: true; the input reads as it did. -/
def measureEndsUptoRow : OpenClaim := { program := "ytholfdgebdlgjaa", sum := "be9bd9ce71a9541df1dfb7e73da2579833618a765474691d1bffb54380db203c", func := "galloon/galloonlaw01.MeasureEnds", spec := "measureEnds", unfollowed := true, recurses := true, leaving := true, apart := false, narrowed := true }
def MeasureEndsUptoSaid : Prop := measureEndsUptoRow.holds Try.pinned (OpenSpec.upto measureEndsSpec)

/-- 'galloonlaw01.MeasureDoubtful', WHERE WHAT IT READS IS OF BULK AT MOST 1048576: true; the input reads as it did. -/
def measureDoubtfulUptoRow : OpenClaim := { program := "ytholfdgebdlgjaa", sum := "be9bd9ce71a9541df1dfb7e73da2579833618a765474691d1bffb54380db203c", func := "galloon/galloonlaw01.MeasureDoubtful", spec := "measureDoubtful", inPlace := ["(*sync.WaitGroup).Add", "internal/race.ReleaseMerge", "internal/race.Disable", "internal/race.Enable", "internal/synctest.IsInBubble", "internal/synctest.Associate[sync.WaitGroup]", "sync.fatal", "sync/atomic.OrUint64", "sync/atomic.AddUint64", "internal/race.Read", "sync/atomic.LoadUint64", "sync/atomic.StoreUint64", "internal/synctest.Disassociate[sync.WaitGroup]", "sync.runtime_Semrelease", "(*sync.WaitGroup).Done", "(*sync.WaitGroup).Wait", "internal/race.Acquire", "internal/synctest.IsAssociated[sync.WaitGroup]", "sync/atomic.CompareAndSwapUint64", "internal/race.Write", "sync.runtime_SemacquireWaitGroup"], unfollowed := true, recurses := true, leaving := true, apart := false, narrowed := true }
def MeasureDoubtfulUptoSaid : Prop := measureDoubtfulUptoRow.holds Try.pinned (OpenSpec.upto measureDoubtfulSpec)

/-- 'galloonlaw01.MeasureKnown', WHERE WHAT IT READS IS OF BULK AT MOST 1048576: true; the input reads as it did. -/
def measureKnownUptoRow : OpenClaim := { program := "ytholfdgebdlgjaa", sum := "be9bd9ce71a9541df1dfb7e73da2579833618a765474691d1bffb54380db203c", func := "galloon/galloonlaw01.MeasureKnown", spec := "measureKnown", inPlace := ["(*sync.WaitGroup).Add", "internal/race.ReleaseMerge", "internal/race.Disable", "internal/race.Enable", "internal/synctest.IsInBubble", "internal/synctest.Associate[sync.WaitGroup]", "sync.fatal", "sync/atomic.OrUint64", "sync/atomic.AddUint64", "internal/race.Read", "sync/atomic.LoadUint64", "sync/atomic.StoreUint64", "internal/synctest.Disassociate[sync.WaitGroup]", "sync.runtime_Semrelease", "(*sync.WaitGroup).Done", "(*sync.WaitGroup).Wait", "internal/race.Acquire", "internal/synctest.IsAssociated[sync.WaitGroup]", "sync/atomic.CompareAndSwapUint64", "internal/race.Write", "sync.runtime_SemacquireWaitGroup"], unfollowed := true, recurses := true, leaving := true, apart := false, narrowed := true }
def MeasureKnownUptoSaid : Prop := measureKnownUptoRow.holds Try.pinned (OpenSpec.upto measureKnownSpec)

end Rows
end Go.Proofs.Ytholfdgebdlgjaa
