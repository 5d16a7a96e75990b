/-
  No cell of these rows narrows 'for every input' (looked for: loops, veiled, ifaces, maps, wideKeys, modest, calm, conditions, laid).
  DERIVED. THE GIVEN ROWS OF THIS SEAT. 20 by the template 'for every input the law returns true; each argument reads behind the call as it read before'; 0 by the template 'total and deterministic' (their statements: YtgccplnlkiejaaaTotals.lean).
  GIVEN WITH THE SEED: the statements are not yours to turn. If you find one false, say at which input.
  Laid BY PROGRAM, IN A SANDBOX (cutbox-rows.mjs): the forced cells as the released guide's own fill.sh prints them over the translation a3785c994c0235a3… (all of the seat's roots in one cut). By AI agents, Wed Nov 11 2026. No macro, syntax, notation, axiom, sorry.
-/
import Derived.Test.YtgccplnlkiejaaaChecked
import GoSem.Claim
import GoSem.ClaimJoined
import GoSem.ClaimMapViews
import Derived.JoinedTies
import Derived.KernelRfl
namespace Go.Proofs.Ytgccplnlkiejaaa
/- THE CELL 'sum', in the pinned program and in every row, IS THE sha256 OF THE DUMP (.gsa) THAT YtgccplnlkiejaaaProg.lean LOADS. Nothing in Lean hashes anything: it is a label: what it is worth is what the hold of that sum in a sandbox is worth. -/
noncomputable def Try.pinned : Pinned := { name := "ytgccplnlkiejaaa", sum := "a3785c994c0235a3509a24667e562f7992a913239091f01e98aae97816234ae5", checked := Try.checked }
namespace Rows
def none {H : Type} : Left H := { results := [], args := [] }

/-- 'laws.FnExactIsSet': WHATEVER THE INPUT: true; the input reads as it did. -/
def fnExactIsSetSpec : ChangeSpec := { name := "fnExactIsSet", fn := fun _ => fun
  | [d] => { results := [.lit (.bool true)], args := [d] }
  | _ => none }
def fnExactIsSetRow : OpenClaim := { program := "ytgccplnlkiejaaa", sum := "a3785c994c0235a3509a24667e562f7992a913239091f01e98aae97816234ae5", func := "loop.example/g01369/laws.FnExactIsSet", spec := "fnExactIsSet", unfollowed := true, recurses := true, apart := false }
def FnExactIsSetSaid : Prop := fnExactIsSetRow.holds Try.pinned (OpenSpec.ofChange fnExactIsSetSpec)

/-- ITS FALSE NEIGHBOUR: 'it returns false'. Refute it at one input. -/
def fnExactIsSetWrong : ChangeSpec := { name := "fnExactIsSet", fn := fun _ => fun
  | [d] => { results := [.lit (.bool false)], args := [d] }
  | _ => none }
def FnExactIsSetWrongFalsely : Prop := fnExactIsSetRow.holds Try.pinned (OpenSpec.ofChange fnExactIsSetWrong)

/-- 'laws.FnExactCountBySum': WHATEVER THE INPUT: true; the input reads as it did. -/
def fnExactCountBySumSpec : ChangeSpec := { name := "fnExactCountBySum", fn := fun _ => fun
  | [d1, d2] => { results := [.lit (.bool true)], args := [d1, d2] }
  | _ => none }
def fnExactCountBySumRow : OpenClaim := { program := "ytgccplnlkiejaaa", sum := "a3785c994c0235a3509a24667e562f7992a913239091f01e98aae97816234ae5", func := "loop.example/g01369/laws.FnExactCountBySum", spec := "fnExactCountBySum", unfollowed := true, recurses := true, apart := false }
def FnExactCountBySumSaid : Prop := fnExactCountBySumRow.holds Try.pinned (OpenSpec.ofChange fnExactCountBySumSpec)

/-- ITS FALSE NEIGHBOUR: 'it returns false'. Refute it at one input. -/
def fnExactCountBySumWrong : ChangeSpec := { name := "fnExactCountBySum", fn := fun _ => fun
  | [d1, d2] => { results := [.lit (.bool false)], args := [d1, d2] }
  | _ => none }
def FnExactCountBySumWrongFalsely : Prop := fnExactCountBySumRow.holds Try.pinned (OpenSpec.ofChange fnExactCountBySumWrong)

/-- 'laws.FnExactHasYoungest': WHATEVER THE INPUT: true; the input reads as it did. -/
def fnExactHasYoungestSpec : ChangeSpec := { name := "fnExactHasYoungest", fn := fun _ => fun
  | [d] => { results := [.lit (.bool true)], args := [d] }
  | _ => none }
def fnExactHasYoungestRow : OpenClaim := { program := "ytgccplnlkiejaaa", sum := "a3785c994c0235a3509a24667e562f7992a913239091f01e98aae97816234ae5", func := "loop.example/g01369/laws.FnExactHasYoungest", spec := "fnExactHasYoungest", unfollowed := true, recurses := true, apart := false }
def FnExactHasYoungestSaid : Prop := fnExactHasYoungestRow.holds Try.pinned (OpenSpec.ofChange fnExactHasYoungestSpec)

/-- ITS FALSE NEIGHBOUR: 'it returns false'. Refute it at one input. -/
def fnExactHasYoungestWrong : ChangeSpec := { name := "fnExactHasYoungest", fn := fun _ => fun
  | [d] => { results := [.lit (.bool false)], args := [d] }
  | _ => none }
def FnExactHasYoungestWrongFalsely : Prop := fnExactHasYoungestRow.holds Try.pinned (OpenSpec.ofChange fnExactHasYoungestWrong)

/-- 'laws.FnExactHasOldest': WHATEVER THE INPUT: true; the input reads as it did. -/
def fnExactHasOldestSpec : ChangeSpec := { name := "fnExactHasOldest", fn := fun _ => fun
  | [d] => { results := [.lit (.bool true)], args := [d] }
  | _ => none }
def fnExactHasOldestRow : OpenClaim := { program := "ytgccplnlkiejaaa", sum := "a3785c994c0235a3509a24667e562f7992a913239091f01e98aae97816234ae5", func := "loop.example/g01369/laws.FnExactHasOldest", spec := "fnExactHasOldest", unfollowed := true, recurses := true, apart := false }
def FnExactHasOldestSaid : Prop := fnExactHasOldestRow.holds Try.pinned (OpenSpec.ofChange fnExactHasOldestSpec)

/-- ITS FALSE NEIGHBOUR: 'it returns false'. Refute it at one input. -/
def fnExactHasOldestWrong : ChangeSpec := { name := "fnExactHasOldest", fn := fun _ => fun
  | [d] => { results := [.lit (.bool false)], args := [d] }
  | _ => none }
def FnExactHasOldestWrongFalsely : Prop := fnExactHasOldestRow.holds Try.pinned (OpenSpec.ofChange fnExactHasOldestWrong)

/-- 'laws.FnExactCountSets': WHATEVER THE INPUT: true; the input reads as it did. -/
def fnExactCountSetsSpec : ChangeSpec := { name := "fnExactCountSets", fn := fun _ => fun
  | [d1, d2] => { results := [.lit (.bool true)], args := [d1, d2] }
  | _ => none }
def fnExactCountSetsRow : OpenClaim := { program := "ytgccplnlkiejaaa", sum := "a3785c994c0235a3509a24667e562f7992a913239091f01e98aae97816234ae5", func := "loop.example/g01369/laws.FnExactCountSets", spec := "fnExactCountSets", unfollowed := true, recurses := true, apart := false }
def FnExactCountSetsSaid : Prop := fnExactCountSetsRow.holds Try.pinned (OpenSpec.ofChange fnExactCountSetsSpec)

/-- ITS FALSE NEIGHBOUR: 'it returns false'. Refute it at one input. -/
def fnExactCountSetsWrong : ChangeSpec := { name := "fnExactCountSets", fn := fun _ => fun
  | [d1, d2] => { results := [.lit (.bool false)], args := [d1, d2] }
  | _ => none }
def FnExactCountSetsWrongFalsely : Prop := fnExactCountSetsRow.holds Try.pinned (OpenSpec.ofChange fnExactCountSetsWrong)

/-- 'laws.FnExactTwinsIn': WHATEVER THE INPUT: true; the input reads as it did. -/
def fnExactTwinsInSpec : ChangeSpec := { name := "fnExactTwinsIn", fn := fun _ => fun
  | [d] => { results := [.lit (.bool true)], args := [d] }
  | _ => none }
def fnExactTwinsInRow : OpenClaim := { program := "ytgccplnlkiejaaa", sum := "a3785c994c0235a3509a24667e562f7992a913239091f01e98aae97816234ae5", func := "loop.example/g01369/laws.FnExactTwinsIn", spec := "fnExactTwinsIn", unfollowed := true, recurses := true, apart := false }
def FnExactTwinsInSaid : Prop := fnExactTwinsInRow.holds Try.pinned (OpenSpec.ofChange fnExactTwinsInSpec)

/-- ITS FALSE NEIGHBOUR: 'it returns false'. Refute it at one input. -/
def fnExactTwinsInWrong : ChangeSpec := { name := "fnExactTwinsIn", fn := fun _ => fun
  | [d] => { results := [.lit (.bool false)], args := [d] }
  | _ => none }
def FnExactTwinsInWrongFalsely : Prop := fnExactTwinsInRow.holds Try.pinned (OpenSpec.ofChange fnExactTwinsInWrong)

/-- 'laws.FnExactMostSets': WHATEVER THE INPUT: true; the input reads as it did. -/
def fnExactMostSetsSpec : ChangeSpec := { name := "fnExactMostSets", fn := fun _ => fun
  | [d1, d2, d3] => { results := [.lit (.bool true)], args := [d1, d2, d3] }
  | _ => none }
def fnExactMostSetsRow : OpenClaim := { program := "ytgccplnlkiejaaa", sum := "a3785c994c0235a3509a24667e562f7992a913239091f01e98aae97816234ae5", func := "loop.example/g01369/laws.FnExactMostSets", spec := "fnExactMostSets", unfollowed := true, recurses := true, apart := false }
def FnExactMostSetsSaid : Prop := fnExactMostSetsRow.holds Try.pinned (OpenSpec.ofChange fnExactMostSetsSpec)

/-- ITS FALSE NEIGHBOUR: 'it returns false'. Refute it at one input. -/
def fnExactMostSetsWrong : ChangeSpec := { name := "fnExactMostSets", fn := fun _ => fun
  | [d1, d2, d3] => { results := [.lit (.bool false)], args := [d1, d2, d3] }
  | _ => none }
def FnExactMostSetsWrongFalsely : Prop := fnExactMostSetsRow.holds Try.pinned (OpenSpec.ofChange fnExactMostSetsWrong)

/-- 'laws.FnExactLaterSet': WHATEVER THE INPUT: true; the input reads as it did. -/
def fnExactLaterSetSpec : ChangeSpec := { name := "fnExactLaterSet", fn := fun _ => fun
  | [d1, d2] => { results := [.lit (.bool true)], args := [d1, d2] }
  | _ => none }
def fnExactLaterSetRow : OpenClaim := { program := "ytgccplnlkiejaaa", sum := "a3785c994c0235a3509a24667e562f7992a913239091f01e98aae97816234ae5", func := "loop.example/g01369/laws.FnExactLaterSet", spec := "fnExactLaterSet", unfollowed := true, recurses := true, apart := false }
def FnExactLaterSetSaid : Prop := fnExactLaterSetRow.holds Try.pinned (OpenSpec.ofChange fnExactLaterSetSpec)

/-- ITS FALSE NEIGHBOUR: 'it returns false'. Refute it at one input. -/
def fnExactLaterSetWrong : ChangeSpec := { name := "fnExactLaterSet", fn := fun _ => fun
  | [d1, d2] => { results := [.lit (.bool false)], args := [d1, d2] }
  | _ => none }
def FnExactLaterSetWrongFalsely : Prop := fnExactLaterSetRow.holds Try.pinned (OpenSpec.ofChange fnExactLaterSetWrong)

/-- 'laws.FnExactNextSet': WHATEVER THE INPUT: true; the input reads as it did. -/
def fnExactNextSetSpec : ChangeSpec := { name := "fnExactNextSet", fn := fun _ => fun
  | [d] => { results := [.lit (.bool true)], args := [d] }
  | _ => none }
def fnExactNextSetRow : OpenClaim := { program := "ytgccplnlkiejaaa", sum := "a3785c994c0235a3509a24667e562f7992a913239091f01e98aae97816234ae5", func := "loop.example/g01369/laws.FnExactNextSet", spec := "fnExactNextSet", unfollowed := true, recurses := true, apart := false }
def FnExactNextSetSaid : Prop := fnExactNextSetRow.holds Try.pinned (OpenSpec.ofChange fnExactNextSetSpec)

/-- ITS FALSE NEIGHBOUR: 'it returns false'. Refute it at one input. -/
def fnExactNextSetWrong : ChangeSpec := { name := "fnExactNextSet", fn := fun _ => fun
  | [d] => { results := [.lit (.bool false)], args := [d] }
  | _ => none }
def FnExactNextSetWrongFalsely : Prop := fnExactNextSetRow.holds Try.pinned (OpenSpec.ofChange fnExactNextSetWrong)

/-- 'laws.FnExactSetsOfProduct': WHATEVER THE INPUT: true; the input reads as it did. -/
def fnExactSetsOfProductSpec : ChangeSpec := { name := "fnExactSetsOfProduct", fn := fun _ => fun
  | [d1, d2] => { results := [.lit (.bool true)], args := [d1, d2] }
  | _ => none }
def fnExactSetsOfProductRow : OpenClaim := { program := "ytgccplnlkiejaaa", sum := "a3785c994c0235a3509a24667e562f7992a913239091f01e98aae97816234ae5", func := "loop.example/g01369/laws.FnExactSetsOfProduct", spec := "fnExactSetsOfProduct", unfollowed := true, recurses := true, apart := false }
def FnExactSetsOfProductSaid : Prop := fnExactSetsOfProductRow.holds Try.pinned (OpenSpec.ofChange fnExactSetsOfProductSpec)

/-- ITS FALSE NEIGHBOUR: 'it returns false'. Refute it at one input. -/
def fnExactSetsOfProductWrong : ChangeSpec := { name := "fnExactSetsOfProduct", fn := fun _ => fun
  | [d1, d2] => { results := [.lit (.bool false)], args := [d1, d2] }
  | _ => none }
def FnExactSetsOfProductWrongFalsely : Prop := fnExactSetsOfProductRow.holds Try.pinned (OpenSpec.ofChange fnExactSetsOfProductWrong)

/-- 'laws.FnExactDoesTell': WHATEVER THE INPUT: true; the input reads as it did. -/
def fnExactDoesTellSpec : ChangeSpec := { name := "fnExactDoesTell", fn := fun _ => fun
  | [d1, d2, d3] => { results := [.lit (.bool true)], args := [d1, d2, d3] }
  | _ => none }
def fnExactDoesTellRow : OpenClaim := { program := "ytgccplnlkiejaaa", sum := "a3785c994c0235a3509a24667e562f7992a913239091f01e98aae97816234ae5", func := "loop.example/g01369/laws.FnExactDoesTell", spec := "fnExactDoesTell", unfollowed := true, recurses := true, apart := false }
def FnExactDoesTellSaid : Prop := fnExactDoesTellRow.holds Try.pinned (OpenSpec.ofChange fnExactDoesTellSpec)

/-- ITS FALSE NEIGHBOUR: 'it returns false'. Refute it at one input. -/
def fnExactDoesTellWrong : ChangeSpec := { name := "fnExactDoesTell", fn := fun _ => fun
  | [d1, d2, d3] => { results := [.lit (.bool false)], args := [d1, d2, d3] }
  | _ => none }
def FnExactDoesTellWrongFalsely : Prop := fnExactDoesTellRow.holds Try.pinned (OpenSpec.ofChange fnExactDoesTellWrong)

/-- 'laws.FnExactSetsApart': WHATEVER THE INPUT: true; the input reads as it did. -/
def fnExactSetsApartSpec : ChangeSpec := { name := "fnExactSetsApart", fn := fun _ => fun
  | [d1, d2, d3] => { results := [.lit (.bool true)], args := [d1, d2, d3] }
  | _ => none }
def fnExactSetsApartRow : OpenClaim := { program := "ytgccplnlkiejaaa", sum := "a3785c994c0235a3509a24667e562f7992a913239091f01e98aae97816234ae5", func := "loop.example/g01369/laws.FnExactSetsApart", spec := "fnExactSetsApart", unfollowed := true, recurses := true, apart := false }
def FnExactSetsApartSaid : Prop := fnExactSetsApartRow.holds Try.pinned (OpenSpec.ofChange fnExactSetsApartSpec)

/-- ITS FALSE NEIGHBOUR: 'it returns false'. Refute it at one input. -/
def fnExactSetsApartWrong : ChangeSpec := { name := "fnExactSetsApart", fn := fun _ => fun
  | [d1, d2, d3] => { results := [.lit (.bool false)], args := [d1, d2, d3] }
  | _ => none }
def FnExactSetsApartWrongFalsely : Prop := fnExactSetsApartRow.holds Try.pinned (OpenSpec.ofChange fnExactSetsApartWrong)

/-- 'laws.FnExactSetsOfBoth': WHATEVER THE INPUT: true; the input reads as it did. -/
def fnExactSetsOfBothSpec : ChangeSpec := { name := "fnExactSetsOfBoth", fn := fun _ => fun
  | [d1, d2, d3] => { results := [.lit (.bool true)], args := [d1, d2, d3] }
  | _ => none }
def fnExactSetsOfBothRow : OpenClaim := { program := "ytgccplnlkiejaaa", sum := "a3785c994c0235a3509a24667e562f7992a913239091f01e98aae97816234ae5", func := "loop.example/g01369/laws.FnExactSetsOfBoth", spec := "fnExactSetsOfBoth", unfollowed := true, recurses := true, apart := false }
def FnExactSetsOfBothSaid : Prop := fnExactSetsOfBothRow.holds Try.pinned (OpenSpec.ofChange fnExactSetsOfBothSpec)

/-- ITS FALSE NEIGHBOUR: 'it returns false'. Refute it at one input. -/
def fnExactSetsOfBothWrong : ChangeSpec := { name := "fnExactSetsOfBoth", fn := fun _ => fun
  | [d1, d2, d3] => { results := [.lit (.bool false)], args := [d1, d2, d3] }
  | _ => none }
def FnExactSetsOfBothWrongFalsely : Prop := fnExactSetsOfBothRow.holds Try.pinned (OpenSpec.ofChange fnExactSetsOfBothWrong)

/-- 'laws.FnExactGreatestProduct': WHATEVER THE INPUT: true; the input reads as it did. -/
def fnExactGreatestProductSpec : ChangeSpec := { name := "fnExactGreatestProduct", fn := fun _ => fun
  | [d1, d2] => { results := [.lit (.bool true)], args := [d1, d2] }
  | _ => none }
def fnExactGreatestProductRow : OpenClaim := { program := "ytgccplnlkiejaaa", sum := "a3785c994c0235a3509a24667e562f7992a913239091f01e98aae97816234ae5", func := "loop.example/g01369/laws.FnExactGreatestProduct", spec := "fnExactGreatestProduct", unfollowed := true, recurses := true, apart := false }
def FnExactGreatestProductSaid : Prop := fnExactGreatestProductRow.holds Try.pinned (OpenSpec.ofChange fnExactGreatestProductSpec)

/-- ITS FALSE NEIGHBOUR: 'it returns false'. Refute it at one input. -/
def fnExactGreatestProductWrong : ChangeSpec := { name := "fnExactGreatestProduct", fn := fun _ => fun
  | [d1, d2] => { results := [.lit (.bool false)], args := [d1, d2] }
  | _ => none }
def FnExactGreatestProductWrongFalsely : Prop := fnExactGreatestProductRow.holds Try.pinned (OpenSpec.ofChange fnExactGreatestProductWrong)

/-- 'laws.FnExactProductsOfSum': WHATEVER THE INPUT: true; the input reads as it did. -/
def fnExactProductsOfSumSpec : ChangeSpec := { name := "fnExactProductsOfSum", fn := fun _ => fun
  | [d1, d2] => { results := [.lit (.bool true)], args := [d1, d2] }
  | _ => none }
def fnExactProductsOfSumRow : OpenClaim := { program := "ytgccplnlkiejaaa", sum := "a3785c994c0235a3509a24667e562f7992a913239091f01e98aae97816234ae5", func := "loop.example/g01369/laws.FnExactProductsOfSum", spec := "fnExactProductsOfSum", unfollowed := true, recurses := true, apart := false }
def FnExactProductsOfSumSaid : Prop := fnExactProductsOfSumRow.holds Try.pinned (OpenSpec.ofChange fnExactProductsOfSumSpec)

/-- ITS FALSE NEIGHBOUR: 'it returns false'. Refute it at one input. -/
def fnExactProductsOfSumWrong : ChangeSpec := { name := "fnExactProductsOfSum", fn := fun _ => fun
  | [d1, d2] => { results := [.lit (.bool false)], args := [d1, d2] }
  | _ => none }
def FnExactProductsOfSumWrongFalsely : Prop := fnExactProductsOfSumRow.holds Try.pinned (OpenSpec.ofChange fnExactProductsOfSumWrong)

/-- 'laws.FnExactSumsOfProduct': WHATEVER THE INPUT: true; the input reads as it did. -/
def fnExactSumsOfProductSpec : ChangeSpec := { name := "fnExactSumsOfProduct", fn := fun _ => fun
  | [d1, d2] => { results := [.lit (.bool true)], args := [d1, d2] }
  | _ => none }
def fnExactSumsOfProductRow : OpenClaim := { program := "ytgccplnlkiejaaa", sum := "a3785c994c0235a3509a24667e562f7992a913239091f01e98aae97816234ae5", func := "loop.example/g01369/laws.FnExactSumsOfProduct", spec := "fnExactSumsOfProduct", unfollowed := true, recurses := true, apart := false }
def FnExactSumsOfProductSaid : Prop := fnExactSumsOfProductRow.holds Try.pinned (OpenSpec.ofChange fnExactSumsOfProductSpec)

/-- ITS FALSE NEIGHBOUR: 'it returns false'. Refute it at one input. -/
def fnExactSumsOfProductWrong : ChangeSpec := { name := "fnExactSumsOfProduct", fn := fun _ => fun
  | [d1, d2] => { results := [.lit (.bool false)], args := [d1, d2] }
  | _ => none }
def FnExactSumsOfProductWrongFalsely : Prop := fnExactSumsOfProductRow.holds Try.pinned (OpenSpec.ofChange fnExactSumsOfProductWrong)

/-- 'laws.FnExactOpenSums': WHATEVER THE INPUT: true; the input reads as it did. -/
def fnExactOpenSumsSpec : ChangeSpec := { name := "fnExactOpenSums", fn := fun _ => fun
  | [d1, d2] => { results := [.lit (.bool true)], args := [d1, d2] }
  | _ => none }
def fnExactOpenSumsRow : OpenClaim := { program := "ytgccplnlkiejaaa", sum := "a3785c994c0235a3509a24667e562f7992a913239091f01e98aae97816234ae5", func := "loop.example/g01369/laws.FnExactOpenSums", spec := "fnExactOpenSums", unfollowed := true, recurses := true, apart := false }
def FnExactOpenSumsSaid : Prop := fnExactOpenSumsRow.holds Try.pinned (OpenSpec.ofChange fnExactOpenSumsSpec)

/-- ITS FALSE NEIGHBOUR: 'it returns false'. Refute it at one input. -/
def fnExactOpenSumsWrong : ChangeSpec := { name := "fnExactOpenSums", fn := fun _ => fun
  | [d1, d2] => { results := [.lit (.bool false)], args := [d1, d2] }
  | _ => none }
def FnExactOpenSumsWrongFalsely : Prop := fnExactOpenSumsRow.holds Try.pinned (OpenSpec.ofChange fnExactOpenSumsWrong)

/-- 'laws.FnExactToldByYoungest': WHATEVER THE INPUT: true; the input reads as it did. -/
def fnExactToldByYoungestSpec : ChangeSpec := { name := "fnExactToldByYoungest", fn := fun _ => fun
  | [d1, d2] => { results := [.lit (.bool true)], args := [d1, d2] }
  | _ => none }
def fnExactToldByYoungestRow : OpenClaim := { program := "ytgccplnlkiejaaa", sum := "a3785c994c0235a3509a24667e562f7992a913239091f01e98aae97816234ae5", func := "loop.example/g01369/laws.FnExactToldByYoungest", spec := "fnExactToldByYoungest", unfollowed := true, recurses := true, apart := false }
def FnExactToldByYoungestSaid : Prop := fnExactToldByYoungestRow.holds Try.pinned (OpenSpec.ofChange fnExactToldByYoungestSpec)

/-- ITS FALSE NEIGHBOUR: 'it returns false'. Refute it at one input. -/
def fnExactToldByYoungestWrong : ChangeSpec := { name := "fnExactToldByYoungest", fn := fun _ => fun
  | [d1, d2] => { results := [.lit (.bool false)], args := [d1, d2] }
  | _ => none }
def FnExactToldByYoungestWrongFalsely : Prop := fnExactToldByYoungestRow.holds Try.pinned (OpenSpec.ofChange fnExactToldByYoungestWrong)

/-- 'laws.FnExactToldByOldest': WHATEVER THE INPUT: true; the input reads as it did. -/
def fnExactToldByOldestSpec : ChangeSpec := { name := "fnExactToldByOldest", fn := fun _ => fun
  | [d1, d2] => { results := [.lit (.bool true)], args := [d1, d2] }
  | _ => none }
def fnExactToldByOldestRow : OpenClaim := { program := "ytgccplnlkiejaaa", sum := "a3785c994c0235a3509a24667e562f7992a913239091f01e98aae97816234ae5", func := "loop.example/g01369/laws.FnExactToldByOldest", spec := "fnExactToldByOldest", unfollowed := true, recurses := true, apart := false }
def FnExactToldByOldestSaid : Prop := fnExactToldByOldestRow.holds Try.pinned (OpenSpec.ofChange fnExactToldByOldestSpec)

/-- ITS FALSE NEIGHBOUR: 'it returns false'. Refute it at one input. -/
def fnExactToldByOldestWrong : ChangeSpec := { name := "fnExactToldByOldest", fn := fun _ => fun
  | [d1, d2] => { results := [.lit (.bool false)], args := [d1, d2] }
  | _ => none }
def FnExactToldByOldestWrongFalsely : Prop := fnExactToldByOldestRow.holds Try.pinned (OpenSpec.ofChange fnExactToldByOldestWrong)

/-- 'laws.FnExactOneByOldest': WHATEVER THE INPUT: true; the input reads as it did. -/
def fnExactOneByOldestSpec : ChangeSpec := { name := "fnExactOneByOldest", fn := fun _ => fun
  | [d1, d2, d3] => { results := [.lit (.bool true)], args := [d1, d2, d3] }
  | _ => none }
def fnExactOneByOldestRow : OpenClaim := { program := "ytgccplnlkiejaaa", sum := "a3785c994c0235a3509a24667e562f7992a913239091f01e98aae97816234ae5", func := "loop.example/g01369/laws.FnExactOneByOldest", spec := "fnExactOneByOldest", unfollowed := true, recurses := true, apart := false }
def FnExactOneByOldestSaid : Prop := fnExactOneByOldestRow.holds Try.pinned (OpenSpec.ofChange fnExactOneByOldestSpec)

/-- ITS FALSE NEIGHBOUR: 'it returns false'. Refute it at one input. -/
def fnExactOneByOldestWrong : ChangeSpec := { name := "fnExactOneByOldest", fn := fun _ => fun
  | [d1, d2, d3] => { results := [.lit (.bool false)], args := [d1, d2, d3] }
  | _ => none }
def FnExactOneByOldestWrongFalsely : Prop := fnExactOneByOldestRow.holds Try.pinned (OpenSpec.ofChange fnExactOneByOldestWrong)

/- THE SECOND FORM. 'bulk': how many values and letters a reading holds, each counted each time it is reached (what is shared counts as often as it is met; a slice's spare places count too). A statement '..UptoSaid' is the law's where the arguments, and the package variables that the reading takes, are together of bulk at most 1048576: NARROWER than '..Said'. Prove '..Said' where nothing that the law and all that it calls make is longer than what came in: it says more and counts as full. Else prove '..UptoSaid'. A law counts once. -/
mutual
def uptoBulk {H : Type} : DataW H → Nat
  | .lit (.string bytes) => bytes.length + 1
  | .lit _ => 1
  | .nil => 1
  | .ptr d => uptoBulk d + 1
  | .slice elems spare => uptoBulkAll elems + uptoBulkAll spare + 1
  | .agg parts => uptoBulkAll parts + 1
  | .iface _ d => uptoBulk d + 1
  | .map entries => uptoBulkEntries entries + 1
  | .held _ => 1
def uptoBulkAll {H : Type} : List (DataW H) → Nat
  | [] => 0
  | d :: r => uptoBulk d + uptoBulkAll r
def uptoBulkEntries {H : Type} : List (Lit × DataW H) → Nat
  | [] => 0
  | x :: r => uptoBulkEntry x + uptoBulkEntries r
def uptoBulkEntry {H : Type} : Lit × DataW H → Nat
  | (.string bytes, d) => bytes.length + uptoBulk d + 1
  | (_, d) => uptoBulk d + 1
 end
def uptoSmall : (H : Type) → List (DataW H) → Bool := fun _ ds => decide (uptoBulkAll ds ≤ 1048576)
def OpenSpec.upto (s : _root_.Go.ChangeSpec) : _root_.Go.OpenSpec := { _root_.Go.OpenSpec.ofChange s with cond := some uptoSmall }

/-- 'laws.FnExactIsSet', WHERE WHAT IT READS IS OF BULK AT MOST 1048576: true; the input reads as it did. -/
def fnExactIsSetUptoRow : OpenClaim := { program := "ytgccplnlkiejaaa", sum := "a3785c994c0235a3509a24667e562f7992a913239091f01e98aae97816234ae5", func := "loop.example/g01369/laws.FnExactIsSet", spec := "fnExactIsSet", unfollowed := true, recurses := true, apart := false, narrowed := true }
def FnExactIsSetUptoSaid : Prop := fnExactIsSetUptoRow.holds Try.pinned (OpenSpec.upto fnExactIsSetSpec)

/-- 'laws.FnExactCountBySum', WHERE WHAT IT READS IS OF BULK AT MOST 1048576: true; the input reads as it did. -/
def fnExactCountBySumUptoRow : OpenClaim := { program := "ytgccplnlkiejaaa", sum := "a3785c994c0235a3509a24667e562f7992a913239091f01e98aae97816234ae5", func := "loop.example/g01369/laws.FnExactCountBySum", spec := "fnExactCountBySum", unfollowed := true, recurses := true, apart := false, narrowed := true }
def FnExactCountBySumUptoSaid : Prop := fnExactCountBySumUptoRow.holds Try.pinned (OpenSpec.upto fnExactCountBySumSpec)

/-- 'laws.FnExactHasYoungest', WHERE WHAT IT READS IS OF BULK AT MOST 1048576: true; the input reads as it did. -/
def fnExactHasYoungestUptoRow : OpenClaim := { program := "ytgccplnlkiejaaa", sum := "a3785c994c0235a3509a24667e562f7992a913239091f01e98aae97816234ae5", func := "loop.example/g01369/laws.FnExactHasYoungest", spec := "fnExactHasYoungest", unfollowed := true, recurses := true, apart := false, narrowed := true }
def FnExactHasYoungestUptoSaid : Prop := fnExactHasYoungestUptoRow.holds Try.pinned (OpenSpec.upto fnExactHasYoungestSpec)

/-- 'laws.FnExactHasOldest', WHERE WHAT IT READS IS OF BULK AT MOST 1048576: true; the input reads as it did. -/
def fnExactHasOldestUptoRow : OpenClaim := { program := "ytgccplnlkiejaaa", sum := "a3785c994c0235a3509a24667e562f7992a913239091f01e98aae97816234ae5", func := "loop.example/g01369/laws.FnExactHasOldest", spec := "fnExactHasOldest", unfollowed := true, recurses := true, apart := false, narrowed := true }
def FnExactHasOldestUptoSaid : Prop := fnExactHasOldestUptoRow.holds Try.pinned (OpenSpec.upto fnExactHasOldestSpec)

/-- 'laws.FnExactCountSets', WHERE WHAT IT READS IS OF BULK AT MOST 1048576: true; the input reads as it did. -/
def fnExactCountSetsUptoRow : OpenClaim := { program := "ytgccplnlkiejaaa", sum := "a3785c994c0235a3509a24667e562f7992a913239091f01e98aae97816234ae5", func := "loop.example/g01369/laws.FnExactCountSets", spec := "fnExactCountSets", unfollowed := true, recurses := true, apart := false, narrowed := true }
def FnExactCountSetsUptoSaid : Prop := fnExactCountSetsUptoRow.holds Try.pinned (OpenSpec.upto fnExactCountSetsSpec)

/-- 'laws.FnExactTwinsIn', WHERE WHAT IT READS IS OF BULK AT MOST 1048576: true; the input reads as it did. -/
def fnExactTwinsInUptoRow : OpenClaim := { program := "ytgccplnlkiejaaa", sum := "a3785c994c0235a3509a24667e562f7992a913239091f01e98aae97816234ae5", func := "loop.example/g01369/laws.FnExactTwinsIn", spec := "fnExactTwinsIn", unfollowed := true, recurses := true, apart := false, narrowed := true }
def FnExactTwinsInUptoSaid : Prop := fnExactTwinsInUptoRow.holds Try.pinned (OpenSpec.upto fnExactTwinsInSpec)

/-- 'laws.FnExactMostSets', WHERE WHAT IT READS IS OF BULK AT MOST 1048576: true; the input reads as it did. -/
def fnExactMostSetsUptoRow : OpenClaim := { program := "ytgccplnlkiejaaa", sum := "a3785c994c0235a3509a24667e562f7992a913239091f01e98aae97816234ae5", func := "loop.example/g01369/laws.FnExactMostSets", spec := "fnExactMostSets", unfollowed := true, recurses := true, apart := false, narrowed := true }
def FnExactMostSetsUptoSaid : Prop := fnExactMostSetsUptoRow.holds Try.pinned (OpenSpec.upto fnExactMostSetsSpec)

/-- 'laws.FnExactLaterSet', WHERE WHAT IT READS IS OF BULK AT MOST 1048576: true; the input reads as it did. -/
def fnExactLaterSetUptoRow : OpenClaim := { program := "ytgccplnlkiejaaa", sum := "a3785c994c0235a3509a24667e562f7992a913239091f01e98aae97816234ae5", func := "loop.example/g01369/laws.FnExactLaterSet", spec := "fnExactLaterSet", unfollowed := true, recurses := true, apart := false, narrowed := true }
def FnExactLaterSetUptoSaid : Prop := fnExactLaterSetUptoRow.holds Try.pinned (OpenSpec.upto fnExactLaterSetSpec)

/-- 'laws.FnExactNextSet', WHERE WHAT IT READS IS OF BULK AT MOST 1048576: true; the input reads as it did. -/
def fnExactNextSetUptoRow : OpenClaim := { program := "ytgccplnlkiejaaa", sum := "a3785c994c0235a3509a24667e562f7992a913239091f01e98aae97816234ae5", func := "loop.example/g01369/laws.FnExactNextSet", spec := "fnExactNextSet", unfollowed := true, recurses := true, apart := false, narrowed := true }
def FnExactNextSetUptoSaid : Prop := fnExactNextSetUptoRow.holds Try.pinned (OpenSpec.upto fnExactNextSetSpec)

/-- 'laws.FnExactSetsOfProduct', WHERE WHAT IT READS IS OF BULK AT MOST 1048576: true; the input reads as it did. -/
def fnExactSetsOfProductUptoRow : OpenClaim := { program := "ytgccplnlkiejaaa", sum := "a3785c994c0235a3509a24667e562f7992a913239091f01e98aae97816234ae5", func := "loop.example/g01369/laws.FnExactSetsOfProduct", spec := "fnExactSetsOfProduct", unfollowed := true, recurses := true, apart := false, narrowed := true }
def FnExactSetsOfProductUptoSaid : Prop := fnExactSetsOfProductUptoRow.holds Try.pinned (OpenSpec.upto fnExactSetsOfProductSpec)

/-- 'laws.FnExactDoesTell', WHERE WHAT IT READS IS OF BULK AT MOST 1048576: true; the input reads as it did. -/
def fnExactDoesTellUptoRow : OpenClaim := { program := "ytgccplnlkiejaaa", sum := "a3785c994c0235a3509a24667e562f7992a913239091f01e98aae97816234ae5", func := "loop.example/g01369/laws.FnExactDoesTell", spec := "fnExactDoesTell", unfollowed := true, recurses := true, apart := false, narrowed := true }
def FnExactDoesTellUptoSaid : Prop := fnExactDoesTellUptoRow.holds Try.pinned (OpenSpec.upto fnExactDoesTellSpec)

/-- 'laws.FnExactSetsApart', WHERE WHAT IT READS IS OF BULK AT MOST 1048576: true; the input reads as it did. -/
def fnExactSetsApartUptoRow : OpenClaim := { program := "ytgccplnlkiejaaa", sum := "a3785c994c0235a3509a24667e562f7992a913239091f01e98aae97816234ae5", func := "loop.example/g01369/laws.FnExactSetsApart", spec := "fnExactSetsApart", unfollowed := true, recurses := true, apart := false, narrowed := true }
def FnExactSetsApartUptoSaid : Prop := fnExactSetsApartUptoRow.holds Try.pinned (OpenSpec.upto fnExactSetsApartSpec)

/-- 'laws.FnExactSetsOfBoth', WHERE WHAT IT READS IS OF BULK AT MOST 1048576: true; the input reads as it did. -/
def fnExactSetsOfBothUptoRow : OpenClaim := { program := "ytgccplnlkiejaaa", sum := "a3785c994c0235a3509a24667e562f7992a913239091f01e98aae97816234ae5", func := "loop.example/g01369/laws.FnExactSetsOfBoth", spec := "fnExactSetsOfBoth", unfollowed := true, recurses := true, apart := false, narrowed := true }
def FnExactSetsOfBothUptoSaid : Prop := fnExactSetsOfBothUptoRow.holds Try.pinned (OpenSpec.upto fnExactSetsOfBothSpec)

/-- 'laws.FnExactGreatestProduct', WHERE WHAT IT READS IS OF BULK AT MOST 1048576: true; the input reads as it did. -/
def fnExactGreatestProductUptoRow : OpenClaim := { program := "ytgccplnlkiejaaa", sum := "a3785c994c0235a3509a24667e562f7992a913239091f01e98aae97816234ae5", func := "loop.example/g01369/laws.FnExactGreatestProduct", spec := "fnExactGreatestProduct", unfollowed := true, recurses := true, apart := false, narrowed := true }
def FnExactGreatestProductUptoSaid : Prop := fnExactGreatestProductUptoRow.holds Try.pinned (OpenSpec.upto fnExactGreatestProductSpec)

/-- 'laws.FnExactProductsOfSum', WHERE WHAT IT READS IS OF BULK AT MOST 1048576: true; the input reads as it did. -/
def fnExactProductsOfSumUptoRow : OpenClaim := { program := "ytgccplnlkiejaaa", sum := "a3785c994c0235a3509a24667e562f7992a913239091f01e98aae97816234ae5", func := "loop.example/g01369/laws.FnExactProductsOfSum", spec := "fnExactProductsOfSum", unfollowed := true, recurses := true, apart := false, narrowed := true }
def FnExactProductsOfSumUptoSaid : Prop := fnExactProductsOfSumUptoRow.holds Try.pinned (OpenSpec.upto fnExactProductsOfSumSpec)

/-- 'laws.FnExactSumsOfProduct', WHERE WHAT IT READS IS OF BULK AT MOST 1048576: true; the input reads as it did. -/
def fnExactSumsOfProductUptoRow : OpenClaim := { program := "ytgccplnlkiejaaa", sum := "a3785c994c0235a3509a24667e562f7992a913239091f01e98aae97816234ae5", func := "loop.example/g01369/laws.FnExactSumsOfProduct", spec := "fnExactSumsOfProduct", unfollowed := true, recurses := true, apart := false, narrowed := true }
def FnExactSumsOfProductUptoSaid : Prop := fnExactSumsOfProductUptoRow.holds Try.pinned (OpenSpec.upto fnExactSumsOfProductSpec)

/-- 'laws.FnExactOpenSums', WHERE WHAT IT READS IS OF BULK AT MOST 1048576: true; the input reads as it did. -/
def fnExactOpenSumsUptoRow : OpenClaim := { program := "ytgccplnlkiejaaa", sum := "a3785c994c0235a3509a24667e562f7992a913239091f01e98aae97816234ae5", func := "loop.example/g01369/laws.FnExactOpenSums", spec := "fnExactOpenSums", unfollowed := true, recurses := true, apart := false, narrowed := true }
def FnExactOpenSumsUptoSaid : Prop := fnExactOpenSumsUptoRow.holds Try.pinned (OpenSpec.upto fnExactOpenSumsSpec)

/-- 'laws.FnExactToldByYoungest', WHERE WHAT IT READS IS OF BULK AT MOST 1048576: true; the input reads as it did. -/
def fnExactToldByYoungestUptoRow : OpenClaim := { program := "ytgccplnlkiejaaa", sum := "a3785c994c0235a3509a24667e562f7992a913239091f01e98aae97816234ae5", func := "loop.example/g01369/laws.FnExactToldByYoungest", spec := "fnExactToldByYoungest", unfollowed := true, recurses := true, apart := false, narrowed := true }
def FnExactToldByYoungestUptoSaid : Prop := fnExactToldByYoungestUptoRow.holds Try.pinned (OpenSpec.upto fnExactToldByYoungestSpec)

/-- 'laws.FnExactToldByOldest', WHERE WHAT IT READS IS OF BULK AT MOST 1048576: true; the input reads as it did. -/
def fnExactToldByOldestUptoRow : OpenClaim := { program := "ytgccplnlkiejaaa", sum := "a3785c994c0235a3509a24667e562f7992a913239091f01e98aae97816234ae5", func := "loop.example/g01369/laws.FnExactToldByOldest", spec := "fnExactToldByOldest", unfollowed := true, recurses := true, apart := false, narrowed := true }
def FnExactToldByOldestUptoSaid : Prop := fnExactToldByOldestUptoRow.holds Try.pinned (OpenSpec.upto fnExactToldByOldestSpec)

/-- 'laws.FnExactOneByOldest', WHERE WHAT IT READS IS OF BULK AT MOST 1048576: true; the input reads as it did. -/
def fnExactOneByOldestUptoRow : OpenClaim := { program := "ytgccplnlkiejaaa", sum := "a3785c994c0235a3509a24667e562f7992a913239091f01e98aae97816234ae5", func := "loop.example/g01369/laws.FnExactOneByOldest", spec := "fnExactOneByOldest", unfollowed := true, recurses := true, apart := false, narrowed := true }
def FnExactOneByOldestUptoSaid : Prop := fnExactOneByOldestUptoRow.holds Try.pinned (OpenSpec.upto fnExactOneByOldestSpec)

end Rows
end Go.Proofs.Ytgccplnlkiejaaa
