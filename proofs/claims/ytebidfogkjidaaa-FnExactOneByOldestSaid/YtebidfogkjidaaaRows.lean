/-
  No cell of these rows narrows 'for every input' (looked for: loops, veiled, ifaces, maps, wideKeys, modest, calm, conditions, laid).
  DERIVED. THE GIVEN ROWS OF THIS SEAT. 4 by the template 'for every input the law returns true; each argument reads behind the call as it read before'; 0 by the template 'total and deterministic' (their statements: YtebidfogkjidaaaTotals.lean).
  GIVEN WITH THE SEED: the statements are not yours to turn. If you find one false, say at which input.
  Laid BY PROGRAM, IN A SANDBOX (cutbox-rows.mjs): the forced cells as the released guide's own fill.sh prints them over the translation 064d4ed9df0ab6f9… (all of the seat's roots in one cut). By AI agents, Wed Nov 11 2026. No macro, syntax, notation, axiom, sorry.
-/
import Derived.Test.YtebidfogkjidaaaChecked
import GoSem.Claim
import GoSem.ClaimJoined
import GoSem.ClaimMapViews
import Derived.JoinedTies
import Derived.KernelRfl
namespace Go.Proofs.Ytebidfogkjidaaa
/- THE CELL 'sum', in the pinned program and in every row, IS THE sha256 OF THE DUMP (.gsa) THAT YtebidfogkjidaaaProg.lean LOADS. Nothing in Lean hashes anything: it is a label: what it is worth is what the hold of that sum in a sandbox is worth. -/
noncomputable def Try.pinned : Pinned := { name := "ytebidfogkjidaaa", sum := "064d4ed9df0ab6f984d56b5cc92298f7543902d07f7755677240d0963480ba11", checked := Try.checked }
namespace Rows
def none {H : Type} : Left H := { results := [], args := [] }

/-- 'laws.FnExactMostSets': WHATEVER THE INPUT: true; the input reads as it did. -/
def fnExactMostSetsSpec : ChangeSpec := { name := "fnExactMostSets", fn := fun _ => fun
  | [d1, d2, d3] => { results := [.lit (.bool true)], args := [d1, d2, d3] }
  | _ => none }
def fnExactMostSetsRow : OpenClaim := { program := "ytebidfogkjidaaa", sum := "064d4ed9df0ab6f984d56b5cc92298f7543902d07f7755677240d0963480ba11", func := "loop.example/g01369/laws.FnExactMostSets", spec := "fnExactMostSets", unfollowed := true, recurses := true, apart := false }
def FnExactMostSetsSaid : Prop := fnExactMostSetsRow.holds Try.pinned (OpenSpec.ofChange fnExactMostSetsSpec)

/-- ITS FALSE NEIGHBOUR: 'it returns false'. Refute it at one input. -/
def fnExactMostSetsWrong : ChangeSpec := { name := "fnExactMostSets", fn := fun _ => fun
  | [d1, d2, d3] => { results := [.lit (.bool false)], args := [d1, d2, d3] }
  | _ => none }
def FnExactMostSetsWrongFalsely : Prop := fnExactMostSetsRow.holds Try.pinned (OpenSpec.ofChange fnExactMostSetsWrong)

/-- 'laws.FnExactToldByYoungest': WHATEVER THE INPUT: true; the input reads as it did. -/
def fnExactToldByYoungestSpec : ChangeSpec := { name := "fnExactToldByYoungest", fn := fun _ => fun
  | [d1, d2] => { results := [.lit (.bool true)], args := [d1, d2] }
  | _ => none }
def fnExactToldByYoungestRow : OpenClaim := { program := "ytebidfogkjidaaa", sum := "064d4ed9df0ab6f984d56b5cc92298f7543902d07f7755677240d0963480ba11", func := "loop.example/g01369/laws.FnExactToldByYoungest", spec := "fnExactToldByYoungest", unfollowed := true, recurses := true, apart := false }
def FnExactToldByYoungestSaid : Prop := fnExactToldByYoungestRow.holds Try.pinned (OpenSpec.ofChange fnExactToldByYoungestSpec)

/-- ITS FALSE NEIGHBOUR: 'it returns false'. Refute it at one input. -/
def fnExactToldByYoungestWrong : ChangeSpec := { name := "fnExactToldByYoungest", fn := fun _ => fun
  | [d1, d2] => { results := [.lit (.bool false)], args := [d1, d2] }
  | _ => none }
def FnExactToldByYoungestWrongFalsely : Prop := fnExactToldByYoungestRow.holds Try.pinned (OpenSpec.ofChange fnExactToldByYoungestWrong)

/-- 'laws.FnExactToldByOldest': WHATEVER THE INPUT: true; the input reads as it did. -/
def fnExactToldByOldestSpec : ChangeSpec := { name := "fnExactToldByOldest", fn := fun _ => fun
  | [d1, d2] => { results := [.lit (.bool true)], args := [d1, d2] }
  | _ => none }
def fnExactToldByOldestRow : OpenClaim := { program := "ytebidfogkjidaaa", sum := "064d4ed9df0ab6f984d56b5cc92298f7543902d07f7755677240d0963480ba11", func := "loop.example/g01369/laws.FnExactToldByOldest", spec := "fnExactToldByOldest", unfollowed := true, recurses := true, apart := false }
def FnExactToldByOldestSaid : Prop := fnExactToldByOldestRow.holds Try.pinned (OpenSpec.ofChange fnExactToldByOldestSpec)

/-- ITS FALSE NEIGHBOUR: 'it returns false'. Refute it at one input. -/
def fnExactToldByOldestWrong : ChangeSpec := { name := "fnExactToldByOldest", fn := fun _ => fun
  | [d1, d2] => { results := [.lit (.bool false)], args := [d1, d2] }
  | _ => none }
def FnExactToldByOldestWrongFalsely : Prop := fnExactToldByOldestRow.holds Try.pinned (OpenSpec.ofChange fnExactToldByOldestWrong)

/-- 'laws.FnExactOneByOldest': WHATEVER THE INPUT: true; the input reads as it did. -/
def fnExactOneByOldestSpec : ChangeSpec := { name := "fnExactOneByOldest", fn := fun _ => fun
  | [d1, d2, d3] => { results := [.lit (.bool true)], args := [d1, d2, d3] }
  | _ => none }
def fnExactOneByOldestRow : OpenClaim := { program := "ytebidfogkjidaaa", sum := "064d4ed9df0ab6f984d56b5cc92298f7543902d07f7755677240d0963480ba11", func := "loop.example/g01369/laws.FnExactOneByOldest", spec := "fnExactOneByOldest", unfollowed := true, recurses := true, apart := false }
def FnExactOneByOldestSaid : Prop := fnExactOneByOldestRow.holds Try.pinned (OpenSpec.ofChange fnExactOneByOldestSpec)

/-- ITS FALSE NEIGHBOUR: 'it returns false'. Refute it at one input. -/
def fnExactOneByOldestWrong : ChangeSpec := { name := "fnExactOneByOldest", fn := fun _ => fun
  | [d1, d2, d3] => { results := [.lit (.bool false)], args := [d1, d2, d3] }
  | _ => none }
def FnExactOneByOldestWrongFalsely : Prop := fnExactOneByOldestRow.holds Try.pinned (OpenSpec.ofChange fnExactOneByOldestWrong)

/- THE SECOND FORM. 'bulk': how many values and letters a reading holds, each counted each time it is reached (what is shared counts as often as it is met; a slice's spare places count too). A statement '..UptoSaid' is the law's where the arguments, and the package variables that the reading takes, are together of bulk at most 1048576: NARROWER than '..Said'. Prove '..Said' where nothing that the law and all that it calls make is longer than what came in: it says more and counts as full. Else prove '..UptoSaid'. A law counts once. -/
mutual
def uptoBulk {H : Type} : DataW H → Nat
  | .lit (.string bytes) => bytes.length + 1
  | .lit _ => 1
  | .nil => 1
  | .ptr d => uptoBulk d + 1
  | .slice elems spare => uptoBulkAll elems + uptoBulkAll spare + 1
  | .agg parts => uptoBulkAll parts + 1
  | .iface _ d => uptoBulk d + 1
  | .map entries => uptoBulkEntries entries + 1
  | .held _ => 1
def uptoBulkAll {H : Type} : List (DataW H) → Nat
  | [] => 0
  | d :: r => uptoBulk d + uptoBulkAll r
def uptoBulkEntries {H : Type} : List (Lit × DataW H) → Nat
  | [] => 0
  | x :: r => uptoBulkEntry x + uptoBulkEntries r
def uptoBulkEntry {H : Type} : Lit × DataW H → Nat
  | (.string bytes, d) => bytes.length + uptoBulk d + 1
  | (_, d) => uptoBulk d + 1
 end
def uptoSmall : (H : Type) → List (DataW H) → Bool := fun _ ds => decide (uptoBulkAll ds ≤ 1048576)
def OpenSpec.upto (s : _root_.Go.ChangeSpec) : _root_.Go.OpenSpec := { _root_.Go.OpenSpec.ofChange s with cond := some uptoSmall }

/-- 'laws.FnExactMostSets', WHERE WHAT IT READS IS OF BULK AT MOST 1048576: true; the input reads as it did. -/
def fnExactMostSetsUptoRow : OpenClaim := { program := "ytebidfogkjidaaa", sum := "064d4ed9df0ab6f984d56b5cc92298f7543902d07f7755677240d0963480ba11", func := "loop.example/g01369/laws.FnExactMostSets", spec := "fnExactMostSets", unfollowed := true, recurses := true, apart := false, narrowed := true }
def FnExactMostSetsUptoSaid : Prop := fnExactMostSetsUptoRow.holds Try.pinned (OpenSpec.upto fnExactMostSetsSpec)

/-- 'laws.FnExactToldByYoungest', WHERE WHAT IT READS IS OF BULK AT MOST 1048576: true; the input reads as it did. -/
def fnExactToldByYoungestUptoRow : OpenClaim := { program := "ytebidfogkjidaaa", sum := "064d4ed9df0ab6f984d56b5cc92298f7543902d07f7755677240d0963480ba11", func := "loop.example/g01369/laws.FnExactToldByYoungest", spec := "fnExactToldByYoungest", unfollowed := true, recurses := true, apart := false, narrowed := true }
def FnExactToldByYoungestUptoSaid : Prop := fnExactToldByYoungestUptoRow.holds Try.pinned (OpenSpec.upto fnExactToldByYoungestSpec)

/-- 'laws.FnExactToldByOldest', WHERE WHAT IT READS IS OF BULK AT MOST 1048576: true; the input reads as it did. -/
def fnExactToldByOldestUptoRow : OpenClaim := { program := "ytebidfogkjidaaa", sum := "064d4ed9df0ab6f984d56b5cc92298f7543902d07f7755677240d0963480ba11", func := "loop.example/g01369/laws.FnExactToldByOldest", spec := "fnExactToldByOldest", unfollowed := true, recurses := true, apart := false, narrowed := true }
def FnExactToldByOldestUptoSaid : Prop := fnExactToldByOldestUptoRow.holds Try.pinned (OpenSpec.upto fnExactToldByOldestSpec)

/-- 'laws.FnExactOneByOldest', WHERE WHAT IT READS IS OF BULK AT MOST 1048576: true; the input reads as it did. -/
def fnExactOneByOldestUptoRow : OpenClaim := { program := "ytebidfogkjidaaa", sum := "064d4ed9df0ab6f984d56b5cc92298f7543902d07f7755677240d0963480ba11", func := "loop.example/g01369/laws.FnExactOneByOldest", spec := "fnExactOneByOldest", unfollowed := true, recurses := true, apart := false, narrowed := true }
def FnExactOneByOldestUptoSaid : Prop := fnExactOneByOldestUptoRow.holds Try.pinned (OpenSpec.upto fnExactOneByOldestSpec)

end Rows
end Go.Proofs.Ytebidfogkjidaaa
