/-
  No cell of these rows narrows 'for every input' (looked for: loops, veiled, ifaces, maps, wideKeys, modest, calm, conditions, laid).
  DERIVED. THE GIVEN ROWS OF THIS SEAT. 6 by the template 'for every input the law returns true; each argument reads behind the call as it read before'; 0 by the template 'total and deterministic' (their statements: YthganiphabaegaaTotals.lean).
  GIVEN WITH THE SEED: the statements are not yours to turn. If you find one false, say at which input.
  Laid BY PROGRAM, IN A SANDBOX (cutbox-rows.mjs): the forced cells as the released guide's own fill.sh prints them over the translation 7cf0b4e2fc0882e4… (all of the seat's roots in one cut). By AI agents, Wed Nov 11 2026. No macro, syntax, notation, axiom, sorry.
-/
import Derived.Test.YthganiphabaegaaChecked
import GoSem.Claim
import GoSem.ClaimJoined
import GoSem.ClaimMapViews
import Derived.JoinedTies
import Derived.KernelRfl
namespace Go.Proofs.Ythganiphabaegaa
/- THE CELL 'sum', in the pinned program and in every row, IS THE sha256 OF THE DUMP (.gsa) THAT YthganiphabaegaaProg.lean LOADS. Nothing in Lean hashes anything: it is a label: what it is worth is what the hold of that sum in a sandbox is worth. -/
noncomputable def Try.pinned : Pinned := { name := "ythganiphabaegaa", sum := "7cf0b4e2fc0882e4f7e47a2c87cab777b14257d4bcd4b861afa28318c31b9509", checked := Try.checked }
namespace Rows
def none {H : Type} : Left H := { results := [], args := [] }

/-- 'laws.FnExactIsTalk': WHATEVER THE INPUT: true; the input reads as it did. -/
def fnExactIsTalkSpec : ChangeSpec := { name := "fnExactIsTalk", fn := fun _ => fun
  | [d] => { results := [.lit (.bool true)], args := [d] }
  | _ => none }
def fnExactIsTalkRow : OpenClaim := { program := "ythganiphabaegaa", sum := "7cf0b4e2fc0882e4f7e47a2c87cab777b14257d4bcd4b861afa28318c31b9509", func := "loop.example/g01369/laws.FnExactIsTalk", spec := "fnExactIsTalk", inPlace := ["internal/bytealg.IndexByteString"], apart := false }
def FnExactIsTalkSaid : Prop := fnExactIsTalkRow.holds Try.pinned (OpenSpec.ofChange fnExactIsTalkSpec)

/-- ITS FALSE NEIGHBOUR: 'it returns false'. Refute it at one input. -/
def fnExactIsTalkWrong : ChangeSpec := { name := "fnExactIsTalk", fn := fun _ => fun
  | [d] => { results := [.lit (.bool false)], args := [d] }
  | _ => none }
def FnExactIsTalkWrongFalsely : Prop := fnExactIsTalkRow.holds Try.pinned (OpenSpec.ofChange fnExactIsTalkWrong)

/-- 'laws.FnExactAddDays': WHATEVER THE INPUT: true; the input reads as it did. -/
def fnExactAddDaysSpec : ChangeSpec := { name := "fnExactAddDays", fn := fun _ => fun
  | [d1, d2] => { results := [.lit (.bool true)], args := [d1, d2] }
  | _ => none }
def fnExactAddDaysRow : OpenClaim := { program := "ythganiphabaegaa", sum := "7cf0b4e2fc0882e4f7e47a2c87cab777b14257d4bcd4b861afa28318c31b9509", func := "loop.example/g01369/laws.FnExactAddDays", spec := "fnExactAddDays", apart := false }
def FnExactAddDaysSaid : Prop := fnExactAddDaysRow.holds Try.pinned (OpenSpec.ofChange fnExactAddDaysSpec)

/-- ITS FALSE NEIGHBOUR: 'it returns false'. Refute it at one input. -/
def fnExactAddDaysWrong : ChangeSpec := { name := "fnExactAddDays", fn := fun _ => fun
  | [d1, d2] => { results := [.lit (.bool false)], args := [d1, d2] }
  | _ => none }
def FnExactAddDaysWrongFalsely : Prop := fnExactAddDaysRow.holds Try.pinned (OpenSpec.ofChange fnExactAddDaysWrong)

/-- 'laws.FnExactDayOfDaysOld': WHATEVER THE INPUT: true; the input reads as it did. -/
def fnExactDayOfDaysOldSpec : ChangeSpec := { name := "fnExactDayOfDaysOld", fn := fun _ => fun
  | [d1, d2] => { results := [.lit (.bool true)], args := [d1, d2] }
  | _ => none }
def fnExactDayOfDaysOldRow : OpenClaim := { program := "ythganiphabaegaa", sum := "7cf0b4e2fc0882e4f7e47a2c87cab777b14257d4bcd4b861afa28318c31b9509", func := "loop.example/g01369/laws.FnExactDayOfDaysOld", spec := "fnExactDayOfDaysOld", apart := false }
def FnExactDayOfDaysOldSaid : Prop := fnExactDayOfDaysOldRow.holds Try.pinned (OpenSpec.ofChange fnExactDayOfDaysOldSpec)

/-- ITS FALSE NEIGHBOUR: 'it returns false'. Refute it at one input. -/
def fnExactDayOfDaysOldWrong : ChangeSpec := { name := "fnExactDayOfDaysOld", fn := fun _ => fun
  | [d1, d2] => { results := [.lit (.bool false)], args := [d1, d2] }
  | _ => none }
def FnExactDayOfDaysOldWrongFalsely : Prop := fnExactDayOfDaysOldRow.holds Try.pinned (OpenSpec.ofChange fnExactDayOfDaysOldWrong)

/-- 'laws.FnExactTwiceAsOld': WHATEVER THE INPUT: true; the input reads as it did. -/
def fnExactTwiceAsOldSpec : ChangeSpec := { name := "fnExactTwiceAsOld", fn := fun _ => fun
  | [d1, d2] => { results := [.lit (.bool true)], args := [d1, d2] }
  | _ => none }
def fnExactTwiceAsOldRow : OpenClaim := { program := "ythganiphabaegaa", sum := "7cf0b4e2fc0882e4f7e47a2c87cab777b14257d4bcd4b861afa28318c31b9509", func := "loop.example/g01369/laws.FnExactTwiceAsOld", spec := "fnExactTwiceAsOld", apart := false }
def FnExactTwiceAsOldSaid : Prop := fnExactTwiceAsOldRow.holds Try.pinned (OpenSpec.ofChange fnExactTwiceAsOldSpec)

/-- ITS FALSE NEIGHBOUR: 'it returns false'. Refute it at one input. -/
def fnExactTwiceAsOldWrong : ChangeSpec := { name := "fnExactTwiceAsOld", fn := fun _ => fun
  | [d1, d2] => { results := [.lit (.bool false)], args := [d1, d2] }
  | _ => none }
def FnExactTwiceAsOldWrongFalsely : Prop := fnExactTwiceAsOldRow.holds Try.pinned (OpenSpec.ofChange fnExactTwiceAsOldWrong)

/-- 'laws.FnExactDaysAlike': WHATEVER THE INPUT: true; the input reads as it did. -/
def fnExactDaysAlikeSpec : ChangeSpec := { name := "fnExactDaysAlike", fn := fun _ => fun
  | [d1, d2, d3] => { results := [.lit (.bool true)], args := [d1, d2, d3] }
  | _ => none }
def fnExactDaysAlikeRow : OpenClaim := { program := "ythganiphabaegaa", sum := "7cf0b4e2fc0882e4f7e47a2c87cab777b14257d4bcd4b861afa28318c31b9509", func := "loop.example/g01369/laws.FnExactDaysAlike", spec := "fnExactDaysAlike", apart := false }
def FnExactDaysAlikeSaid : Prop := fnExactDaysAlikeRow.holds Try.pinned (OpenSpec.ofChange fnExactDaysAlikeSpec)

/-- ITS FALSE NEIGHBOUR: 'it returns false'. Refute it at one input. -/
def fnExactDaysAlikeWrong : ChangeSpec := { name := "fnExactDaysAlike", fn := fun _ => fun
  | [d1, d2, d3] => { results := [.lit (.bool false)], args := [d1, d2, d3] }
  | _ => none }
def FnExactDaysAlikeWrongFalsely : Prop := fnExactDaysAlikeRow.holds Try.pinned (OpenSpec.ofChange fnExactDaysAlikeWrong)

/-- 'laws.FnExactDaysOld': WHATEVER THE INPUT: true; the input reads as it did. -/
def fnExactDaysOldSpec : ChangeSpec := { name := "fnExactDaysOld", fn := fun _ => fun
  | [d1, d2] => { results := [.lit (.bool true)], args := [d1, d2] }
  | _ => none }
def fnExactDaysOldRow : OpenClaim := { program := "ythganiphabaegaa", sum := "7cf0b4e2fc0882e4f7e47a2c87cab777b14257d4bcd4b861afa28318c31b9509", func := "loop.example/g01369/laws.FnExactDaysOld", spec := "fnExactDaysOld", unfollowed := true, recurses := true, apart := false }
def FnExactDaysOldSaid : Prop := fnExactDaysOldRow.holds Try.pinned (OpenSpec.ofChange fnExactDaysOldSpec)

/-- ITS FALSE NEIGHBOUR: 'it returns false'. Refute it at one input. -/
def fnExactDaysOldWrong : ChangeSpec := { name := "fnExactDaysOld", fn := fun _ => fun
  | [d1, d2] => { results := [.lit (.bool false)], args := [d1, d2] }
  | _ => none }
def FnExactDaysOldWrongFalsely : Prop := fnExactDaysOldRow.holds Try.pinned (OpenSpec.ofChange fnExactDaysOldWrong)

/- THE SECOND FORM. 'bulk': how many values and letters a reading holds, each counted each time it is reached (what is shared counts as often as it is met; a slice's spare places count too). A statement '..UptoSaid' is the law's where the arguments, and the package variables that the reading takes, are together of bulk at most 1048576: NARROWER than '..Said'. Prove '..Said' where nothing that the law and all that it calls make is longer than what came in: it says more and counts as full. Else prove '..UptoSaid'. A law counts once. -/
mutual
def uptoBulk {H : Type} : DataW H → Nat
  | .lit (.string bytes) => bytes.length + 1
  | .lit _ => 1
  | .nil => 1
  | .ptr d => uptoBulk d + 1
  | .slice elems spare => uptoBulkAll elems + uptoBulkAll spare + 1
  | .agg parts => uptoBulkAll parts + 1
  | .iface _ d => uptoBulk d + 1
  | .map entries => uptoBulkEntries entries + 1
  | .held _ => 1
def uptoBulkAll {H : Type} : List (DataW H) → Nat
  | [] => 0
  | d :: r => uptoBulk d + uptoBulkAll r
def uptoBulkEntries {H : Type} : List (Lit × DataW H) → Nat
  | [] => 0
  | x :: r => uptoBulkEntry x + uptoBulkEntries r
def uptoBulkEntry {H : Type} : Lit × DataW H → Nat
  | (.string bytes, d) => bytes.length + uptoBulk d + 1
  | (_, d) => uptoBulk d + 1
 end
def uptoSmall : (H : Type) → List (DataW H) → Bool := fun _ ds => decide (uptoBulkAll ds ≤ 1048576)
def OpenSpec.upto (s : _root_.Go.ChangeSpec) : _root_.Go.OpenSpec := { _root_.Go.OpenSpec.ofChange s with cond := some uptoSmall }

/-- 'laws.FnExactIsTalk', WHERE WHAT IT READS IS OF BULK AT MOST 1048576: true; the input reads as it did. -/
def fnExactIsTalkUptoRow : OpenClaim := { program := "ythganiphabaegaa", sum := "7cf0b4e2fc0882e4f7e47a2c87cab777b14257d4bcd4b861afa28318c31b9509", func := "loop.example/g01369/laws.FnExactIsTalk", spec := "fnExactIsTalk", inPlace := ["internal/bytealg.IndexByteString"], apart := false, narrowed := true }
def FnExactIsTalkUptoSaid : Prop := fnExactIsTalkUptoRow.holds Try.pinned (OpenSpec.upto fnExactIsTalkSpec)

/-- 'laws.FnExactAddDays', WHERE WHAT IT READS IS OF BULK AT MOST 1048576: true; the input reads as it did. -/
def fnExactAddDaysUptoRow : OpenClaim := { program := "ythganiphabaegaa", sum := "7cf0b4e2fc0882e4f7e47a2c87cab777b14257d4bcd4b861afa28318c31b9509", func := "loop.example/g01369/laws.FnExactAddDays", spec := "fnExactAddDays", apart := false, narrowed := true }
def FnExactAddDaysUptoSaid : Prop := fnExactAddDaysUptoRow.holds Try.pinned (OpenSpec.upto fnExactAddDaysSpec)

/-- 'laws.FnExactDayOfDaysOld', WHERE WHAT IT READS IS OF BULK AT MOST 1048576: true; the input reads as it did. -/
def fnExactDayOfDaysOldUptoRow : OpenClaim := { program := "ythganiphabaegaa", sum := "7cf0b4e2fc0882e4f7e47a2c87cab777b14257d4bcd4b861afa28318c31b9509", func := "loop.example/g01369/laws.FnExactDayOfDaysOld", spec := "fnExactDayOfDaysOld", apart := false, narrowed := true }
def FnExactDayOfDaysOldUptoSaid : Prop := fnExactDayOfDaysOldUptoRow.holds Try.pinned (OpenSpec.upto fnExactDayOfDaysOldSpec)

/-- 'laws.FnExactTwiceAsOld', WHERE WHAT IT READS IS OF BULK AT MOST 1048576: true; the input reads as it did. -/
def fnExactTwiceAsOldUptoRow : OpenClaim := { program := "ythganiphabaegaa", sum := "7cf0b4e2fc0882e4f7e47a2c87cab777b14257d4bcd4b861afa28318c31b9509", func := "loop.example/g01369/laws.FnExactTwiceAsOld", spec := "fnExactTwiceAsOld", apart := false, narrowed := true }
def FnExactTwiceAsOldUptoSaid : Prop := fnExactTwiceAsOldUptoRow.holds Try.pinned (OpenSpec.upto fnExactTwiceAsOldSpec)

/-- 'laws.FnExactDaysAlike', WHERE WHAT IT READS IS OF BULK AT MOST 1048576: true; the input reads as it did. -/
def fnExactDaysAlikeUptoRow : OpenClaim := { program := "ythganiphabaegaa", sum := "7cf0b4e2fc0882e4f7e47a2c87cab777b14257d4bcd4b861afa28318c31b9509", func := "loop.example/g01369/laws.FnExactDaysAlike", spec := "fnExactDaysAlike", apart := false, narrowed := true }
def FnExactDaysAlikeUptoSaid : Prop := fnExactDaysAlikeUptoRow.holds Try.pinned (OpenSpec.upto fnExactDaysAlikeSpec)

/-- 'laws.FnExactDaysOld', WHERE WHAT IT READS IS OF BULK AT MOST 1048576: true; the input reads as it did. -/
def fnExactDaysOldUptoRow : OpenClaim := { program := "ythganiphabaegaa", sum := "7cf0b4e2fc0882e4f7e47a2c87cab777b14257d4bcd4b861afa28318c31b9509", func := "loop.example/g01369/laws.FnExactDaysOld", spec := "fnExactDaysOld", unfollowed := true, recurses := true, apart := false, narrowed := true }
def FnExactDaysOldUptoSaid : Prop := fnExactDaysOldUptoRow.holds Try.pinned (OpenSpec.upto fnExactDaysOldSpec)

end Rows
end Go.Proofs.Ythganiphabaegaa
