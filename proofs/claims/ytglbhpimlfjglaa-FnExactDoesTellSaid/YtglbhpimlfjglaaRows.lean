/-
  No cell of these rows narrows 'for every input' (looked for: loops, veiled, ifaces, maps, wideKeys, modest, calm, conditions, laid).
  DERIVED. THE GIVEN ROWS OF THIS SEAT. 7 by the template 'for every input the law returns true; each argument reads behind the call as it read before'; 0 by the template 'total and deterministic' (their statements: YtglbhpimlfjglaaTotals.lean).
  GIVEN WITH THE SEED: the statements are not yours to turn. If you find one false, say at which input.
  Laid BY PROGRAM, IN A SANDBOX (cutbox-rows.mjs): the forced cells as the released guide's own fill.sh prints them over the translation 9e7e5465d142e369… (all of the seat's roots in one cut). By AI agents, Wed Nov 11 2026. No macro, syntax, notation, axiom, sorry.
-/
import Derived.Test.YtglbhpimlfjglaaChecked
import GoSem.Claim
import GoSem.ClaimJoined
import GoSem.ClaimMapViews
import Derived.JoinedTies
import Derived.KernelRfl
namespace Go.Proofs.Ytglbhpimlfjglaa
/- THE CELL 'sum', in the pinned program and in every row, IS THE sha256 OF THE DUMP (.gsa) THAT YtglbhpimlfjglaaProg.lean LOADS. Nothing in Lean hashes anything: it is a label: what it is worth is what the hold of that sum in a sandbox is worth. -/
noncomputable def Try.pinned : Pinned := { name := "ytglbhpimlfjglaa", sum := "9e7e5465d142e369574af3d2c5e9b2bf0ba3881ed49d0e794a7fbdf68380ccc5", checked := Try.checked }
namespace Rows
def none {H : Type} : Left H := { results := [], args := [] }

/-- 'laws.FnExactCountBySum': WHATEVER THE INPUT: true; the input reads as it did. -/
def fnExactCountBySumSpec : ChangeSpec := { name := "fnExactCountBySum", fn := fun _ => fun
  | [d1, d2] => { results := [.lit (.bool true)], args := [d1, d2] }
  | _ => none }
def fnExactCountBySumRow : OpenClaim := { program := "ytglbhpimlfjglaa", sum := "9e7e5465d142e369574af3d2c5e9b2bf0ba3881ed49d0e794a7fbdf68380ccc5", func := "loop.example/g01369/laws.FnExactCountBySum", spec := "fnExactCountBySum", unfollowed := true, recurses := true, apart := false }
def FnExactCountBySumSaid : Prop := fnExactCountBySumRow.holds Try.pinned (OpenSpec.ofChange fnExactCountBySumSpec)

/-- ITS FALSE NEIGHBOUR: 'it returns false'. Refute it at one input. -/
def fnExactCountBySumWrong : ChangeSpec := { name := "fnExactCountBySum", fn := fun _ => fun
  | [d1, d2] => { results := [.lit (.bool false)], args := [d1, d2] }
  | _ => none }
def FnExactCountBySumWrongFalsely : Prop := fnExactCountBySumRow.holds Try.pinned (OpenSpec.ofChange fnExactCountBySumWrong)

/-- 'laws.FnExactCountSets': WHATEVER THE INPUT: true; the input reads as it did. -/
def fnExactCountSetsSpec : ChangeSpec := { name := "fnExactCountSets", fn := fun _ => fun
  | [d1, d2] => { results := [.lit (.bool true)], args := [d1, d2] }
  | _ => none }
def fnExactCountSetsRow : OpenClaim := { program := "ytglbhpimlfjglaa", sum := "9e7e5465d142e369574af3d2c5e9b2bf0ba3881ed49d0e794a7fbdf68380ccc5", func := "loop.example/g01369/laws.FnExactCountSets", spec := "fnExactCountSets", unfollowed := true, recurses := true, apart := false }
def FnExactCountSetsSaid : Prop := fnExactCountSetsRow.holds Try.pinned (OpenSpec.ofChange fnExactCountSetsSpec)

/-- ITS FALSE NEIGHBOUR: 'it returns false'. Refute it at one input. -/
def fnExactCountSetsWrong : ChangeSpec := { name := "fnExactCountSets", fn := fun _ => fun
  | [d1, d2] => { results := [.lit (.bool false)], args := [d1, d2] }
  | _ => none }
def FnExactCountSetsWrongFalsely : Prop := fnExactCountSetsRow.holds Try.pinned (OpenSpec.ofChange fnExactCountSetsWrong)

/-- 'laws.FnExactMostSets': WHATEVER THE INPUT: true; the input reads as it did. -/
def fnExactMostSetsSpec : ChangeSpec := { name := "fnExactMostSets", fn := fun _ => fun
  | [d1, d2, d3] => { results := [.lit (.bool true)], args := [d1, d2, d3] }
  | _ => none }
def fnExactMostSetsRow : OpenClaim := { program := "ytglbhpimlfjglaa", sum := "9e7e5465d142e369574af3d2c5e9b2bf0ba3881ed49d0e794a7fbdf68380ccc5", func := "loop.example/g01369/laws.FnExactMostSets", spec := "fnExactMostSets", unfollowed := true, recurses := true, apart := false }
def FnExactMostSetsSaid : Prop := fnExactMostSetsRow.holds Try.pinned (OpenSpec.ofChange fnExactMostSetsSpec)

/-- ITS FALSE NEIGHBOUR: 'it returns false'. Refute it at one input. -/
def fnExactMostSetsWrong : ChangeSpec := { name := "fnExactMostSets", fn := fun _ => fun
  | [d1, d2, d3] => { results := [.lit (.bool false)], args := [d1, d2, d3] }
  | _ => none }
def FnExactMostSetsWrongFalsely : Prop := fnExactMostSetsRow.holds Try.pinned (OpenSpec.ofChange fnExactMostSetsWrong)

/-- 'laws.FnExactSetsOfProduct': WHATEVER THE INPUT: true; the input reads as it did. -/
def fnExactSetsOfProductSpec : ChangeSpec := { name := "fnExactSetsOfProduct", fn := fun _ => fun
  | [d1, d2] => { results := [.lit (.bool true)], args := [d1, d2] }
  | _ => none }
def fnExactSetsOfProductRow : OpenClaim := { program := "ytglbhpimlfjglaa", sum := "9e7e5465d142e369574af3d2c5e9b2bf0ba3881ed49d0e794a7fbdf68380ccc5", func := "loop.example/g01369/laws.FnExactSetsOfProduct", spec := "fnExactSetsOfProduct", unfollowed := true, recurses := true, apart := false }
def FnExactSetsOfProductSaid : Prop := fnExactSetsOfProductRow.holds Try.pinned (OpenSpec.ofChange fnExactSetsOfProductSpec)

/-- ITS FALSE NEIGHBOUR: 'it returns false'. Refute it at one input. -/
def fnExactSetsOfProductWrong : ChangeSpec := { name := "fnExactSetsOfProduct", fn := fun _ => fun
  | [d1, d2] => { results := [.lit (.bool false)], args := [d1, d2] }
  | _ => none }
def FnExactSetsOfProductWrongFalsely : Prop := fnExactSetsOfProductRow.holds Try.pinned (OpenSpec.ofChange fnExactSetsOfProductWrong)

/-- 'laws.FnExactSetsApart': WHATEVER THE INPUT: true; the input reads as it did. -/
def fnExactSetsApartSpec : ChangeSpec := { name := "fnExactSetsApart", fn := fun _ => fun
  | [d1, d2, d3] => { results := [.lit (.bool true)], args := [d1, d2, d3] }
  | _ => none }
def fnExactSetsApartRow : OpenClaim := { program := "ytglbhpimlfjglaa", sum := "9e7e5465d142e369574af3d2c5e9b2bf0ba3881ed49d0e794a7fbdf68380ccc5", func := "loop.example/g01369/laws.FnExactSetsApart", spec := "fnExactSetsApart", unfollowed := true, recurses := true, apart := false }
def FnExactSetsApartSaid : Prop := fnExactSetsApartRow.holds Try.pinned (OpenSpec.ofChange fnExactSetsApartSpec)

/-- ITS FALSE NEIGHBOUR: 'it returns false'. Refute it at one input. -/
def fnExactSetsApartWrong : ChangeSpec := { name := "fnExactSetsApart", fn := fun _ => fun
  | [d1, d2, d3] => { results := [.lit (.bool false)], args := [d1, d2, d3] }
  | _ => none }
def FnExactSetsApartWrongFalsely : Prop := fnExactSetsApartRow.holds Try.pinned (OpenSpec.ofChange fnExactSetsApartWrong)

/-- 'laws.FnExactSetsOfBoth': WHATEVER THE INPUT: true; the input reads as it did. -/
def fnExactSetsOfBothSpec : ChangeSpec := { name := "fnExactSetsOfBoth", fn := fun _ => fun
  | [d1, d2, d3] => { results := [.lit (.bool true)], args := [d1, d2, d3] }
  | _ => none }
def fnExactSetsOfBothRow : OpenClaim := { program := "ytglbhpimlfjglaa", sum := "9e7e5465d142e369574af3d2c5e9b2bf0ba3881ed49d0e794a7fbdf68380ccc5", func := "loop.example/g01369/laws.FnExactSetsOfBoth", spec := "fnExactSetsOfBoth", unfollowed := true, recurses := true, apart := false }
def FnExactSetsOfBothSaid : Prop := fnExactSetsOfBothRow.holds Try.pinned (OpenSpec.ofChange fnExactSetsOfBothSpec)

/-- ITS FALSE NEIGHBOUR: 'it returns false'. Refute it at one input. -/
def fnExactSetsOfBothWrong : ChangeSpec := { name := "fnExactSetsOfBoth", fn := fun _ => fun
  | [d1, d2, d3] => { results := [.lit (.bool false)], args := [d1, d2, d3] }
  | _ => none }
def FnExactSetsOfBothWrongFalsely : Prop := fnExactSetsOfBothRow.holds Try.pinned (OpenSpec.ofChange fnExactSetsOfBothWrong)

/-- 'laws.FnExactDoesTell': WHATEVER THE INPUT: true; the input reads as it did. -/
def fnExactDoesTellSpec : ChangeSpec := { name := "fnExactDoesTell", fn := fun _ => fun
  | [d1, d2, d3] => { results := [.lit (.bool true)], args := [d1, d2, d3] }
  | _ => none }
def fnExactDoesTellRow : OpenClaim := { program := "ytglbhpimlfjglaa", sum := "9e7e5465d142e369574af3d2c5e9b2bf0ba3881ed49d0e794a7fbdf68380ccc5", func := "loop.example/g01369/laws.FnExactDoesTell", spec := "fnExactDoesTell", unfollowed := true, recurses := true, apart := false }
def FnExactDoesTellSaid : Prop := fnExactDoesTellRow.holds Try.pinned (OpenSpec.ofChange fnExactDoesTellSpec)

/-- ITS FALSE NEIGHBOUR: 'it returns false'. Refute it at one input. -/
def fnExactDoesTellWrong : ChangeSpec := { name := "fnExactDoesTell", fn := fun _ => fun
  | [d1, d2, d3] => { results := [.lit (.bool false)], args := [d1, d2, d3] }
  | _ => none }
def FnExactDoesTellWrongFalsely : Prop := fnExactDoesTellRow.holds Try.pinned (OpenSpec.ofChange fnExactDoesTellWrong)

/- THE SECOND FORM. 'bulk': how many values and letters a reading holds, each counted each time it is reached (what is shared counts as often as it is met; a slice's spare places count too). A statement '..UptoSaid' is the law's where the arguments, and the package variables that the reading takes, are together of bulk at most 1048576: NARROWER than '..Said'. Prove '..Said' where nothing that the law and all that it calls make is longer than what came in: it says more and counts as full. Else prove '..UptoSaid'. A law counts once. -/
mutual
def uptoBulk {H : Type} : DataW H → Nat
  | .lit (.string bytes) => bytes.length + 1
  | .lit _ => 1
  | .nil => 1
  | .ptr d => uptoBulk d + 1
  | .slice elems spare => uptoBulkAll elems + uptoBulkAll spare + 1
  | .agg parts => uptoBulkAll parts + 1
  | .iface _ d => uptoBulk d + 1
  | .map entries => uptoBulkEntries entries + 1
  | .held _ => 1
def uptoBulkAll {H : Type} : List (DataW H) → Nat
  | [] => 0
  | d :: r => uptoBulk d + uptoBulkAll r
def uptoBulkEntries {H : Type} : List (Lit × DataW H) → Nat
  | [] => 0
  | x :: r => uptoBulkEntry x + uptoBulkEntries r
def uptoBulkEntry {H : Type} : Lit × DataW H → Nat
  | (.string bytes, d) => bytes.length + uptoBulk d + 1
  | (_, d) => uptoBulk d + 1
 end
def uptoSmall : (H : Type) → List (DataW H) → Bool := fun _ ds => decide (uptoBulkAll ds ≤ 1048576)
def OpenSpec.upto (s : _root_.Go.ChangeSpec) : _root_.Go.OpenSpec := { _root_.Go.OpenSpec.ofChange s with cond := some uptoSmall }

/-- 'laws.FnExactCountBySum', WHERE WHAT IT READS IS OF BULK AT MOST 1048576: true; the input reads as it did. -/
def fnExactCountBySumUptoRow : OpenClaim := { program := "ytglbhpimlfjglaa", sum := "9e7e5465d142e369574af3d2c5e9b2bf0ba3881ed49d0e794a7fbdf68380ccc5", func := "loop.example/g01369/laws.FnExactCountBySum", spec := "fnExactCountBySum", unfollowed := true, recurses := true, apart := false, narrowed := true }
def FnExactCountBySumUptoSaid : Prop := fnExactCountBySumUptoRow.holds Try.pinned (OpenSpec.upto fnExactCountBySumSpec)

/-- 'laws.FnExactCountSets', WHERE WHAT IT READS IS OF BULK AT MOST 1048576: true; the input reads as it did. -/
def fnExactCountSetsUptoRow : OpenClaim := { program := "ytglbhpimlfjglaa", sum := "9e7e5465d142e369574af3d2c5e9b2bf0ba3881ed49d0e794a7fbdf68380ccc5", func := "loop.example/g01369/laws.FnExactCountSets", spec := "fnExactCountSets", unfollowed := true, recurses := true, apart := false, narrowed := true }
def FnExactCountSetsUptoSaid : Prop := fnExactCountSetsUptoRow.holds Try.pinned (OpenSpec.upto fnExactCountSetsSpec)

/-- 'laws.FnExactMostSets', WHERE WHAT IT READS IS OF BULK AT MOST 1048576: true; the input reads as it did. -/
def fnExactMostSetsUptoRow : OpenClaim := { program := "ytglbhpimlfjglaa", sum := "9e7e5465d142e369574af3d2c5e9b2bf0ba3881ed49d0e794a7fbdf68380ccc5", func := "loop.example/g01369/laws.FnExactMostSets", spec := "fnExactMostSets", unfollowed := true, recurses := true, apart := false, narrowed := true }
def FnExactMostSetsUptoSaid : Prop := fnExactMostSetsUptoRow.holds Try.pinned (OpenSpec.upto fnExactMostSetsSpec)

/-- 'laws.FnExactSetsOfProduct', WHERE WHAT IT READS IS OF BULK AT MOST 1048576: true; the input reads as it did. -/
def fnExactSetsOfProductUptoRow : OpenClaim := { program := "ytglbhpimlfjglaa", sum := "9e7e5465d142e369574af3d2c5e9b2bf0ba3881ed49d0e794a7fbdf68380ccc5", func := "loop.example/g01369/laws.FnExactSetsOfProduct", spec := "fnExactSetsOfProduct", unfollowed := true, recurses := true, apart := false, narrowed := true }
def FnExactSetsOfProductUptoSaid : Prop := fnExactSetsOfProductUptoRow.holds Try.pinned (OpenSpec.upto fnExactSetsOfProductSpec)

/-- 'laws.FnExactSetsApart', WHERE WHAT IT READS IS OF BULK AT MOST 1048576: true; the input reads as it did. -/
def fnExactSetsApartUptoRow : OpenClaim := { program := "ytglbhpimlfjglaa", sum := "9e7e5465d142e369574af3d2c5e9b2bf0ba3881ed49d0e794a7fbdf68380ccc5", func := "loop.example/g01369/laws.FnExactSetsApart", spec := "fnExactSetsApart", unfollowed := true, recurses := true, apart := false, narrowed := true }
def FnExactSetsApartUptoSaid : Prop := fnExactSetsApartUptoRow.holds Try.pinned (OpenSpec.upto fnExactSetsApartSpec)

/-- 'laws.FnExactSetsOfBoth', WHERE WHAT IT READS IS OF BULK AT MOST 1048576: true; the input reads as it did. -/
def fnExactSetsOfBothUptoRow : OpenClaim := { program := "ytglbhpimlfjglaa", sum := "9e7e5465d142e369574af3d2c5e9b2bf0ba3881ed49d0e794a7fbdf68380ccc5", func := "loop.example/g01369/laws.FnExactSetsOfBoth", spec := "fnExactSetsOfBoth", unfollowed := true, recurses := true, apart := false, narrowed := true }
def FnExactSetsOfBothUptoSaid : Prop := fnExactSetsOfBothUptoRow.holds Try.pinned (OpenSpec.upto fnExactSetsOfBothSpec)

/-- 'laws.FnExactDoesTell', WHERE WHAT IT READS IS OF BULK AT MOST 1048576: true; the input reads as it did. -/
def fnExactDoesTellUptoRow : OpenClaim := { program := "ytglbhpimlfjglaa", sum := "9e7e5465d142e369574af3d2c5e9b2bf0ba3881ed49d0e794a7fbdf68380ccc5", func := "loop.example/g01369/laws.FnExactDoesTell", spec := "fnExactDoesTell", unfollowed := true, recurses := true, apart := false, narrowed := true }
def FnExactDoesTellUptoSaid : Prop := fnExactDoesTellUptoRow.holds Try.pinned (OpenSpec.upto fnExactDoesTellSpec)

end Rows
end Go.Proofs.Ytglbhpimlfjglaa
