/-
  No cell of these rows narrows 'for every input' (looked for: loops, veiled, ifaces, maps, wideKeys, modest, calm, conditions, laid).
  DERIVED. THE GIVEN ROWS OF THIS SEAT. 11 by the template 'for every input the law returns true; each argument reads behind the call as it read before'; 0 by the template 'total and deterministic' (their statements: YtofkafbcbghkeaaTotals.lean).
  GIVEN WITH THE SEED: the statements are not yours to turn. If you find one false, say at which input.
  Laid BY PROGRAM, IN A SANDBOX (cutbox-rows.mjs): the forced cells as the released guide's own fill.sh prints them over the translation 7fbbc4cbb3881ba8… (all of the seat's roots in one cut). By AI agents, Wed Nov 11 2026. No macro, syntax, notation, axiom, sorry.
-/
import Derived.Test.YtofkafbcbghkeaaChecked
import GoSem.Claim
import GoSem.ClaimJoined
import GoSem.ClaimMapViews
import Derived.JoinedTies
import Derived.KernelRfl
namespace Go.Proofs.Ytofkafbcbghkeaa
/- THE CELL 'sum', in the pinned program and in every row, IS THE sha256 OF THE DUMP (.gsa) THAT YtofkafbcbghkeaaProg.lean LOADS. Nothing in Lean hashes anything: it is a label: what it is worth is what the hold of that sum in a sandbox is worth. -/
noncomputable def Try.pinned : Pinned := { name := "ytofkafbcbghkeaa", sum := "7fbbc4cbb3881ba8071f30f2c70254438ea92a24381bdaedcd37a492add5f9f2", checked := Try.checked }
namespace Rows
def none {H : Type} : Left H := { results := [], args := [] }

/-- 'laws.FnExactIsTalk': WHATEVER THE INPUT: true; the input reads as it did. -/
def fnExactIsTalkSpec : ChangeSpec := { name := "fnExactIsTalk", fn := fun _ => fun
  | [d] => { results := [.lit (.bool true)], args := [d] }
  | _ => none }
def fnExactIsTalkRow : OpenClaim := { program := "ytofkafbcbghkeaa", sum := "7fbbc4cbb3881ba8071f30f2c70254438ea92a24381bdaedcd37a492add5f9f2", func := "loop.example/g01369/laws.FnExactIsTalk", spec := "fnExactIsTalk", inPlace := ["internal/bytealg.IndexByteString"], plainKeys := false, apart := false }
def FnExactIsTalkSaid : Prop := fnExactIsTalkRow.holds Try.pinned (OpenSpec.ofChange fnExactIsTalkSpec)

/-- ITS FALSE NEIGHBOUR: 'it returns false'. Refute it at one input. -/
def fnExactIsTalkWrong : ChangeSpec := { name := "fnExactIsTalk", fn := fun _ => fun
  | [d] => { results := [.lit (.bool false)], args := [d] }
  | _ => none }
def FnExactIsTalkWrongFalsely : Prop := fnExactIsTalkRow.holds Try.pinned (OpenSpec.ofChange fnExactIsTalkWrong)

/-- 'laws.FnExactPairsOfProduct': WHATEVER THE INPUT: true; the input reads as it did. -/
def fnExactPairsOfProductSpec : ChangeSpec := { name := "fnExactPairsOfProduct", fn := fun _ => fun
  | [d1, d2] => { results := [.lit (.bool true)], args := [d1, d2] }
  | _ => none }
def fnExactPairsOfProductRow : OpenClaim := { program := "ytofkafbcbghkeaa", sum := "7fbbc4cbb3881ba8071f30f2c70254438ea92a24381bdaedcd37a492add5f9f2", func := "loop.example/g01369/laws.FnExactPairsOfProduct", spec := "fnExactPairsOfProduct", unfollowed := true, recurses := true, plainKeys := false, apart := false }
def FnExactPairsOfProductSaid : Prop := fnExactPairsOfProductRow.holds Try.pinned (OpenSpec.ofChange fnExactPairsOfProductSpec)

/-- ITS FALSE NEIGHBOUR: 'it returns false'. Refute it at one input. -/
def fnExactPairsOfProductWrong : ChangeSpec := { name := "fnExactPairsOfProduct", fn := fun _ => fun
  | [d1, d2] => { results := [.lit (.bool false)], args := [d1, d2] }
  | _ => none }
def FnExactPairsOfProductWrongFalsely : Prop := fnExactPairsOfProductRow.holds Try.pinned (OpenSpec.ofChange fnExactPairsOfProductWrong)

/-- 'laws.FnExactPairsOfSum': WHATEVER THE INPUT: true; the input reads as it did. -/
def fnExactPairsOfSumSpec : ChangeSpec := { name := "fnExactPairsOfSum", fn := fun _ => fun
  | [d1, d2] => { results := [.lit (.bool true)], args := [d1, d2] }
  | _ => none }
def fnExactPairsOfSumRow : OpenClaim := { program := "ytofkafbcbghkeaa", sum := "7fbbc4cbb3881ba8071f30f2c70254438ea92a24381bdaedcd37a492add5f9f2", func := "loop.example/g01369/laws.FnExactPairsOfSum", spec := "fnExactPairsOfSum", unfollowed := true, recurses := true, plainKeys := false, apart := false }
def FnExactPairsOfSumSaid : Prop := fnExactPairsOfSumRow.holds Try.pinned (OpenSpec.ofChange fnExactPairsOfSumSpec)

/-- ITS FALSE NEIGHBOUR: 'it returns false'. Refute it at one input. -/
def fnExactPairsOfSumWrong : ChangeSpec := { name := "fnExactPairsOfSum", fn := fun _ => fun
  | [d1, d2] => { results := [.lit (.bool false)], args := [d1, d2] }
  | _ => none }
def FnExactPairsOfSumWrongFalsely : Prop := fnExactPairsOfSumRow.holds Try.pinned (OpenSpec.ofChange fnExactPairsOfSumWrong)

/-- 'laws.FnExactCountLeft': WHATEVER THE INPUT: true; the input reads as it did. -/
def fnExactCountLeftSpec : ChangeSpec := { name := "fnExactCountLeft", fn := fun _ => fun
  | [d1, d2] => { results := [.lit (.bool true)], args := [d1, d2] }
  | _ => none }
def fnExactCountLeftRow : OpenClaim := { program := "ytofkafbcbghkeaa", sum := "7fbbc4cbb3881ba8071f30f2c70254438ea92a24381bdaedcd37a492add5f9f2", func := "loop.example/g01369/laws.FnExactCountLeft", spec := "fnExactCountLeft", inPlace := ["internal/bytealg.IndexByteString"], unfollowed := true, recurses := true, plainKeys := false, apart := false }
def FnExactCountLeftSaid : Prop := fnExactCountLeftRow.holds Try.pinned (OpenSpec.ofChange fnExactCountLeftSpec)

/-- ITS FALSE NEIGHBOUR: 'it returns false'. Refute it at one input. -/
def fnExactCountLeftWrong : ChangeSpec := { name := "fnExactCountLeft", fn := fun _ => fun
  | [d1, d2] => { results := [.lit (.bool false)], args := [d1, d2] }
  | _ => none }
def FnExactCountLeftWrongFalsely : Prop := fnExactCountLeftRow.holds Try.pinned (OpenSpec.ofChange fnExactCountLeftWrong)

/-- 'laws.FnExactIsToldByTalk': WHATEVER THE INPUT: true; the input reads as it did. -/
def fnExactIsToldByTalkSpec : ChangeSpec := { name := "fnExactIsToldByTalk", fn := fun _ => fun
  | [d1, d2] => { results := [.lit (.bool true)], args := [d1, d2] }
  | _ => none }
def fnExactIsToldByTalkRow : OpenClaim := { program := "ytofkafbcbghkeaa", sum := "7fbbc4cbb3881ba8071f30f2c70254438ea92a24381bdaedcd37a492add5f9f2", func := "loop.example/g01369/laws.FnExactIsToldByTalk", spec := "fnExactIsToldByTalk", inPlace := ["internal/bytealg.IndexByteString"], unfollowed := true, recurses := true, plainKeys := false, apart := false }
def FnExactIsToldByTalkSaid : Prop := fnExactIsToldByTalkRow.holds Try.pinned (OpenSpec.ofChange fnExactIsToldByTalkSpec)

/-- ITS FALSE NEIGHBOUR: 'it returns false'. Refute it at one input. -/
def fnExactIsToldByTalkWrong : ChangeSpec := { name := "fnExactIsToldByTalk", fn := fun _ => fun
  | [d1, d2] => { results := [.lit (.bool false)], args := [d1, d2] }
  | _ => none }
def FnExactIsToldByTalkWrongFalsely : Prop := fnExactIsToldByTalkRow.holds Try.pinned (OpenSpec.ofChange fnExactIsToldByTalkWrong)

/-- 'laws.FnExactFirstLeft': WHATEVER THE INPUT: true; the input reads as it did. -/
def fnExactFirstLeftSpec : ChangeSpec := { name := "fnExactFirstLeft", fn := fun _ => fun
  | [d1, d2] => { results := [.lit (.bool true)], args := [d1, d2] }
  | _ => none }
def fnExactFirstLeftRow : OpenClaim := { program := "ytofkafbcbghkeaa", sum := "7fbbc4cbb3881ba8071f30f2c70254438ea92a24381bdaedcd37a492add5f9f2", func := "loop.example/g01369/laws.FnExactFirstLeft", spec := "fnExactFirstLeft", inPlace := ["internal/bytealg.IndexByteString"], unfollowed := true, recurses := true, plainKeys := false, apart := false }
def FnExactFirstLeftSaid : Prop := fnExactFirstLeftRow.holds Try.pinned (OpenSpec.ofChange fnExactFirstLeftSpec)

/-- ITS FALSE NEIGHBOUR: 'it returns false'. Refute it at one input. -/
def fnExactFirstLeftWrong : ChangeSpec := { name := "fnExactFirstLeft", fn := fun _ => fun
  | [d1, d2] => { results := [.lit (.bool false)], args := [d1, d2] }
  | _ => none }
def FnExactFirstLeftWrongFalsely : Prop := fnExactFirstLeftRow.holds Try.pinned (OpenSpec.ofChange fnExactFirstLeftWrong)

/-- 'laws.FnExactCountNeverKnown': WHATEVER THE INPUT: true; the input reads as it did. -/
def fnExactCountNeverKnownSpec : ChangeSpec := { name := "fnExactCountNeverKnown", fn := fun _ => fun
  | [d1, d2] => { results := [.lit (.bool true)], args := [d1, d2] }
  | _ => none }
def fnExactCountNeverKnownRow : OpenClaim := { program := "ytofkafbcbghkeaa", sum := "7fbbc4cbb3881ba8071f30f2c70254438ea92a24381bdaedcd37a492add5f9f2", func := "loop.example/g01369/laws.FnExactCountNeverKnown", spec := "fnExactCountNeverKnown", unfollowed := true, recurses := true, plainKeys := false, apart := false }
def FnExactCountNeverKnownSaid : Prop := fnExactCountNeverKnownRow.holds Try.pinned (OpenSpec.ofChange fnExactCountNeverKnownSpec)

/-- ITS FALSE NEIGHBOUR: 'it returns false'. Refute it at one input. -/
def fnExactCountNeverKnownWrong : ChangeSpec := { name := "fnExactCountNeverKnown", fn := fun _ => fun
  | [d1, d2] => { results := [.lit (.bool false)], args := [d1, d2] }
  | _ => none }
def FnExactCountNeverKnownWrongFalsely : Prop := fnExactCountNeverKnownRow.holds Try.pinned (OpenSpec.ofChange fnExactCountNeverKnownWrong)

/-- 'laws.FnExactKnownAfter': WHATEVER THE INPUT: true; the input reads as it did. -/
def fnExactKnownAfterSpec : ChangeSpec := { name := "fnExactKnownAfter", fn := fun _ => fun
  | [d1, d2, d3, d4] => { results := [.lit (.bool true)], args := [d1, d2, d3, d4] }
  | _ => none }
def fnExactKnownAfterRow : OpenClaim := { program := "ytofkafbcbghkeaa", sum := "7fbbc4cbb3881ba8071f30f2c70254438ea92a24381bdaedcd37a492add5f9f2", func := "loop.example/g01369/laws.FnExactKnownAfter", spec := "fnExactKnownAfter", unfollowed := true, recurses := true, plainKeys := false, apart := false }
def FnExactKnownAfterSaid : Prop := fnExactKnownAfterRow.holds Try.pinned (OpenSpec.ofChange fnExactKnownAfterSpec)

/-- ITS FALSE NEIGHBOUR: 'it returns false'. Refute it at one input. -/
def fnExactKnownAfterWrong : ChangeSpec := { name := "fnExactKnownAfter", fn := fun _ => fun
  | [d1, d2, d3, d4] => { results := [.lit (.bool false)], args := [d1, d2, d3, d4] }
  | _ => none }
def FnExactKnownAfterWrongFalsely : Prop := fnExactKnownAfterRow.holds Try.pinned (OpenSpec.ofChange fnExactKnownAfterWrong)

/-- 'laws.FnExactIsTrueTalk': WHATEVER THE INPUT: true; the input reads as it did. -/
def fnExactIsTrueTalkSpec : ChangeSpec := { name := "fnExactIsTrueTalk", fn := fun _ => fun
  | [d1, d2, d3, d4] => { results := [.lit (.bool true)], args := [d1, d2, d3, d4] }
  | _ => none }
def fnExactIsTrueTalkRow : OpenClaim := { program := "ytofkafbcbghkeaa", sum := "7fbbc4cbb3881ba8071f30f2c70254438ea92a24381bdaedcd37a492add5f9f2", func := "loop.example/g01369/laws.FnExactIsTrueTalk", spec := "fnExactIsTrueTalk", inPlace := ["internal/bytealg.IndexByteString"], unfollowed := true, recurses := true, plainKeys := false, apart := false }
def FnExactIsTrueTalkSaid : Prop := fnExactIsTrueTalkRow.holds Try.pinned (OpenSpec.ofChange fnExactIsTrueTalkSpec)

/-- ITS FALSE NEIGHBOUR: 'it returns false'. Refute it at one input. -/
def fnExactIsTrueTalkWrong : ChangeSpec := { name := "fnExactIsTrueTalk", fn := fun _ => fun
  | [d1, d2, d3, d4] => { results := [.lit (.bool false)], args := [d1, d2, d3, d4] }
  | _ => none }
def FnExactIsTrueTalkWrongFalsely : Prop := fnExactIsTrueTalkRow.holds Try.pinned (OpenSpec.ofChange fnExactIsTrueTalkWrong)

/-- 'laws.FnExactLongestTalk': WHATEVER THE INPUT: true; the input reads as it did. -/
def fnExactLongestTalkSpec : ChangeSpec := { name := "fnExactLongestTalk", fn := fun _ => fun
  | [d1, d2] => { results := [.lit (.bool true)], args := [d1, d2] }
  | _ => none }
def fnExactLongestTalkRow : OpenClaim := { program := "ytofkafbcbghkeaa", sum := "7fbbc4cbb3881ba8071f30f2c70254438ea92a24381bdaedcd37a492add5f9f2", func := "loop.example/g01369/laws.FnExactLongestTalk", spec := "fnExactLongestTalk", unfollowed := true, recurses := true, plainKeys := false, apart := false }
def FnExactLongestTalkSaid : Prop := fnExactLongestTalkRow.holds Try.pinned (OpenSpec.ofChange fnExactLongestTalkSpec)

/-- ITS FALSE NEIGHBOUR: 'it returns false'. Refute it at one input. -/
def fnExactLongestTalkWrong : ChangeSpec := { name := "fnExactLongestTalk", fn := fun _ => fun
  | [d1, d2] => { results := [.lit (.bool false)], args := [d1, d2] }
  | _ => none }
def FnExactLongestTalkWrongFalsely : Prop := fnExactLongestTalkRow.holds Try.pinned (OpenSpec.ofChange fnExactLongestTalkWrong)

/-- 'laws.FnExactTrueTalk': WHATEVER THE INPUT: true; the input reads as it did. -/
def fnExactTrueTalkSpec : ChangeSpec := { name := "fnExactTrueTalk", fn := fun _ => fun
  | [d1, d2, d3, d4] => { results := [.lit (.bool true)], args := [d1, d2, d3, d4] }
  | _ => none }
def fnExactTrueTalkRow : OpenClaim := { program := "ytofkafbcbghkeaa", sum := "7fbbc4cbb3881ba8071f30f2c70254438ea92a24381bdaedcd37a492add5f9f2", func := "loop.example/g01369/laws.FnExactTrueTalk", spec := "fnExactTrueTalk", unfollowed := true, recurses := true, plainKeys := false, apart := false }
def FnExactTrueTalkSaid : Prop := fnExactTrueTalkRow.holds Try.pinned (OpenSpec.ofChange fnExactTrueTalkSpec)

/-- ITS FALSE NEIGHBOUR: 'it returns false'. Refute it at one input. -/
def fnExactTrueTalkWrong : ChangeSpec := { name := "fnExactTrueTalk", fn := fun _ => fun
  | [d1, d2, d3, d4] => { results := [.lit (.bool false)], args := [d1, d2, d3, d4] }
  | _ => none }
def FnExactTrueTalkWrongFalsely : Prop := fnExactTrueTalkRow.holds Try.pinned (OpenSpec.ofChange fnExactTrueTalkWrong)

/- THE SECOND FORM. 'bulk': how many values and letters a reading holds, each counted each time it is reached (what is shared counts as often as it is met; a slice's spare places count too). A statement '..UptoSaid' is the law's where the arguments, and the package variables that the reading takes, are together of bulk at most 1048576: NARROWER than '..Said'. Prove '..Said' where nothing that the law and all that it calls make is longer than what came in: it says more and counts as full. Else prove '..UptoSaid'. A law counts once. -/
mutual
def uptoBulk {H : Type} : DataW H → Nat
  | .lit (.string bytes) => bytes.length + 1
  | .lit _ => 1
  | .nil => 1
  | .ptr d => uptoBulk d + 1
  | .slice elems spare => uptoBulkAll elems + uptoBulkAll spare + 1
  | .agg parts => uptoBulkAll parts + 1
  | .iface _ d => uptoBulk d + 1
  | .map entries => uptoBulkEntries entries + 1
  | .held _ => 1
def uptoBulkAll {H : Type} : List (DataW H) → Nat
  | [] => 0
  | d :: r => uptoBulk d + uptoBulkAll r
def uptoBulkEntries {H : Type} : List (Lit × DataW H) → Nat
  | [] => 0
  | x :: r => uptoBulkEntry x + uptoBulkEntries r
def uptoBulkEntry {H : Type} : Lit × DataW H → Nat
  | (.string bytes, d) => bytes.length + uptoBulk d + 1
  | (_, d) => uptoBulk d + 1
 end
def uptoSmall : (H : Type) → List (DataW H) → Bool := fun _ ds => decide (uptoBulkAll ds ≤ 1048576)
def OpenSpec.upto (s : _root_.Go.ChangeSpec) : _root_.Go.OpenSpec := { _root_.Go.OpenSpec.ofChange s with cond := some uptoSmall }

/-- 'laws.FnExactIsTalk', WHERE WHAT IT READS IS OF BULK AT MOST 1048576: true; the input reads as it did. -/
def fnExactIsTalkUptoRow : OpenClaim := { program := "ytofkafbcbghkeaa", sum := "7fbbc4cbb3881ba8071f30f2c70254438ea92a24381bdaedcd37a492add5f9f2", func := "loop.example/g01369/laws.FnExactIsTalk", spec := "fnExactIsTalk", inPlace := ["internal/bytealg.IndexByteString"], plainKeys := false, apart := false, narrowed := true }
def FnExactIsTalkUptoSaid : Prop := fnExactIsTalkUptoRow.holds Try.pinned (OpenSpec.upto fnExactIsTalkSpec)

/-- 'laws.FnExactPairsOfProduct', WHERE WHAT IT READS IS OF BULK AT MOST 1048576: true; the input reads as it did. -/
def fnExactPairsOfProductUptoRow : OpenClaim := { program := "ytofkafbcbghkeaa", sum := "7fbbc4cbb3881ba8071f30f2c70254438ea92a24381bdaedcd37a492add5f9f2", func := "loop.example/g01369/laws.FnExactPairsOfProduct", spec := "fnExactPairsOfProduct", unfollowed := true, recurses := true, plainKeys := false, apart := false, narrowed := true }
def FnExactPairsOfProductUptoSaid : Prop := fnExactPairsOfProductUptoRow.holds Try.pinned (OpenSpec.upto fnExactPairsOfProductSpec)

/-- 'laws.FnExactPairsOfSum', WHERE WHAT IT READS IS OF BULK AT MOST 1048576: true; the input reads as it did. -/
def fnExactPairsOfSumUptoRow : OpenClaim := { program := "ytofkafbcbghkeaa", sum := "7fbbc4cbb3881ba8071f30f2c70254438ea92a24381bdaedcd37a492add5f9f2", func := "loop.example/g01369/laws.FnExactPairsOfSum", spec := "fnExactPairsOfSum", unfollowed := true, recurses := true, plainKeys := false, apart := false, narrowed := true }
def FnExactPairsOfSumUptoSaid : Prop := fnExactPairsOfSumUptoRow.holds Try.pinned (OpenSpec.upto fnExactPairsOfSumSpec)

/-- 'laws.FnExactCountLeft', WHERE WHAT IT READS IS OF BULK AT MOST 1048576: true; the input reads as it did. -/
def fnExactCountLeftUptoRow : OpenClaim := { program := "ytofkafbcbghkeaa", sum := "7fbbc4cbb3881ba8071f30f2c70254438ea92a24381bdaedcd37a492add5f9f2", func := "loop.example/g01369/laws.FnExactCountLeft", spec := "fnExactCountLeft", inPlace := ["internal/bytealg.IndexByteString"], unfollowed := true, recurses := true, plainKeys := false, apart := false, narrowed := true }
def FnExactCountLeftUptoSaid : Prop := fnExactCountLeftUptoRow.holds Try.pinned (OpenSpec.upto fnExactCountLeftSpec)

/-- 'laws.FnExactIsToldByTalk', WHERE WHAT IT READS IS OF BULK AT MOST 1048576: true; the input reads as it did. -/
def fnExactIsToldByTalkUptoRow : OpenClaim := { program := "ytofkafbcbghkeaa", sum := "7fbbc4cbb3881ba8071f30f2c70254438ea92a24381bdaedcd37a492add5f9f2", func := "loop.example/g01369/laws.FnExactIsToldByTalk", spec := "fnExactIsToldByTalk", inPlace := ["internal/bytealg.IndexByteString"], unfollowed := true, recurses := true, plainKeys := false, apart := false, narrowed := true }
def FnExactIsToldByTalkUptoSaid : Prop := fnExactIsToldByTalkUptoRow.holds Try.pinned (OpenSpec.upto fnExactIsToldByTalkSpec)

/-- 'laws.FnExactFirstLeft', WHERE WHAT IT READS IS OF BULK AT MOST 1048576: true; the input reads as it did. -/
def fnExactFirstLeftUptoRow : OpenClaim := { program := "ytofkafbcbghkeaa", sum := "7fbbc4cbb3881ba8071f30f2c70254438ea92a24381bdaedcd37a492add5f9f2", func := "loop.example/g01369/laws.FnExactFirstLeft", spec := "fnExactFirstLeft", inPlace := ["internal/bytealg.IndexByteString"], unfollowed := true, recurses := true, plainKeys := false, apart := false, narrowed := true }
def FnExactFirstLeftUptoSaid : Prop := fnExactFirstLeftUptoRow.holds Try.pinned (OpenSpec.upto fnExactFirstLeftSpec)

/-- 'laws.FnExactCountNeverKnown', WHERE WHAT IT READS IS OF BULK AT MOST 1048576: true; the input reads as it did. -/
def fnExactCountNeverKnownUptoRow : OpenClaim := { program := "ytofkafbcbghkeaa", sum := "7fbbc4cbb3881ba8071f30f2c70254438ea92a24381bdaedcd37a492add5f9f2", func := "loop.example/g01369/laws.FnExactCountNeverKnown", spec := "fnExactCountNeverKnown", unfollowed := true, recurses := true, plainKeys := false, apart := false, narrowed := true }
def FnExactCountNeverKnownUptoSaid : Prop := fnExactCountNeverKnownUptoRow.holds Try.pinned (OpenSpec.upto fnExactCountNeverKnownSpec)

/-- 'laws.FnExactKnownAfter', WHERE WHAT IT READS IS OF BULK AT MOST 1048576: true; the input reads as it did. -/
def fnExactKnownAfterUptoRow : OpenClaim := { program := "ytofkafbcbghkeaa", sum := "7fbbc4cbb3881ba8071f30f2c70254438ea92a24381bdaedcd37a492add5f9f2", func := "loop.example/g01369/laws.FnExactKnownAfter", spec := "fnExactKnownAfter", unfollowed := true, recurses := true, plainKeys := false, apart := false, narrowed := true }
def FnExactKnownAfterUptoSaid : Prop := fnExactKnownAfterUptoRow.holds Try.pinned (OpenSpec.upto fnExactKnownAfterSpec)

/-- 'laws.FnExactIsTrueTalk', WHERE WHAT IT READS IS OF BULK AT MOST 1048576: true; the input reads as it did. -/
def fnExactIsTrueTalkUptoRow : OpenClaim := { program := "ytofkafbcbghkeaa", sum := "7fbbc4cbb3881ba8071f30f2c70254438ea92a24381bdaedcd37a492add5f9f2", func := "loop.example/g01369/laws.FnExactIsTrueTalk", spec := "fnExactIsTrueTalk", inPlace := ["internal/bytealg.IndexByteString"], unfollowed := true, recurses := true, plainKeys := false, apart := false, narrowed := true }
def FnExactIsTrueTalkUptoSaid : Prop := fnExactIsTrueTalkUptoRow.holds Try.pinned (OpenSpec.upto fnExactIsTrueTalkSpec)

/-- 'laws.FnExactLongestTalk', WHERE WHAT IT READS IS OF BULK AT MOST 1048576: true; the input reads as it did. -/
def fnExactLongestTalkUptoRow : OpenClaim := { program := "ytofkafbcbghkeaa", sum := "7fbbc4cbb3881ba8071f30f2c70254438ea92a24381bdaedcd37a492add5f9f2", func := "loop.example/g01369/laws.FnExactLongestTalk", spec := "fnExactLongestTalk", unfollowed := true, recurses := true, plainKeys := false, apart := false, narrowed := true }
def FnExactLongestTalkUptoSaid : Prop := fnExactLongestTalkUptoRow.holds Try.pinned (OpenSpec.upto fnExactLongestTalkSpec)

/-- 'laws.FnExactTrueTalk', WHERE WHAT IT READS IS OF BULK AT MOST 1048576: true; the input reads as it did. -/
def fnExactTrueTalkUptoRow : OpenClaim := { program := "ytofkafbcbghkeaa", sum := "7fbbc4cbb3881ba8071f30f2c70254438ea92a24381bdaedcd37a492add5f9f2", func := "loop.example/g01369/laws.FnExactTrueTalk", spec := "fnExactTrueTalk", unfollowed := true, recurses := true, plainKeys := false, apart := false, narrowed := true }
def FnExactTrueTalkUptoSaid : Prop := fnExactTrueTalkUptoRow.holds Try.pinned (OpenSpec.upto fnExactTrueTalkSpec)

end Rows
end Go.Proofs.Ytofkafbcbghkeaa
