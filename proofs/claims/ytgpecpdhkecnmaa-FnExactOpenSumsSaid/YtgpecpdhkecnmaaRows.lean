/-
  No cell of these rows narrows 'for every input' (looked for: loops, veiled, ifaces, maps, wideKeys, modest, calm, conditions, laid).
  DERIVED. THE GIVEN ROWS OF THIS SEAT. 4 by the template 'for every input the law returns true; each argument reads behind the call as it read before'; 0 by the template 'total and deterministic' (their statements: YtgpecpdhkecnmaaTotals.lean).
  GIVEN WITH THE SEED: the statements are not yours to turn. If you find one false, say at which input.
  Laid BY PROGRAM, IN A SANDBOX (cutbox-rows.mjs): the forced cells as the released guide's own fill.sh prints them over the translation c473e877b37df9a7… (all of the seat's roots in one cut). By AI agents, Wed Nov 11 2026. No macro, syntax, notation, axiom, sorry.
-/
import Derived.Test.YtgpecpdhkecnmaaChecked
import GoSem.Claim
import GoSem.ClaimJoined
import GoSem.ClaimMapViews
import Derived.JoinedTies
import Derived.KernelRfl
namespace Go.Proofs.Ytgpecpdhkecnmaa
/- THE CELL 'sum', in the pinned program and in every row, IS THE sha256 OF THE DUMP (.gsa) THAT YtgpecpdhkecnmaaProg.lean LOADS. Nothing in Lean hashes anything: it is a label: what it is worth is what the hold of that sum in a sandbox is worth. -/
noncomputable def Try.pinned : Pinned := { name := "ytgpecpdhkecnmaa", sum := "c473e877b37df9a78617436c01284b293af49ce339674607ef37945d334702ea", checked := Try.checked }
namespace Rows
def none {H : Type} : Left H := { results := [], args := [] }

/-- 'laws.FnExactProductsOfSum': WHATEVER THE INPUT: true; the input reads as it did. -/
def fnExactProductsOfSumSpec : ChangeSpec := { name := "fnExactProductsOfSum", fn := fun _ => fun
  | [d1, d2] => { results := [.lit (.bool true)], args := [d1, d2] }
  | _ => none }
def fnExactProductsOfSumRow : OpenClaim := { program := "ytgpecpdhkecnmaa", sum := "c473e877b37df9a78617436c01284b293af49ce339674607ef37945d334702ea", func := "loop.example/g01369/laws.FnExactProductsOfSum", spec := "fnExactProductsOfSum", unfollowed := true, recurses := true, apart := false }
def FnExactProductsOfSumSaid : Prop := fnExactProductsOfSumRow.holds Try.pinned (OpenSpec.ofChange fnExactProductsOfSumSpec)

/-- ITS FALSE NEIGHBOUR: 'it returns false'. Refute it at one input. -/
def fnExactProductsOfSumWrong : ChangeSpec := { name := "fnExactProductsOfSum", fn := fun _ => fun
  | [d1, d2] => { results := [.lit (.bool false)], args := [d1, d2] }
  | _ => none }
def FnExactProductsOfSumWrongFalsely : Prop := fnExactProductsOfSumRow.holds Try.pinned (OpenSpec.ofChange fnExactProductsOfSumWrong)

/-- 'laws.FnExactGreatestProduct': WHATEVER THE INPUT: true; the input reads as it did. -/
def fnExactGreatestProductSpec : ChangeSpec := { name := "fnExactGreatestProduct", fn := fun _ => fun
  | [d1, d2] => { results := [.lit (.bool true)], args := [d1, d2] }
  | _ => none }
def fnExactGreatestProductRow : OpenClaim := { program := "ytgpecpdhkecnmaa", sum := "c473e877b37df9a78617436c01284b293af49ce339674607ef37945d334702ea", func := "loop.example/g01369/laws.FnExactGreatestProduct", spec := "fnExactGreatestProduct", unfollowed := true, recurses := true, apart := false }
def FnExactGreatestProductSaid : Prop := fnExactGreatestProductRow.holds Try.pinned (OpenSpec.ofChange fnExactGreatestProductSpec)

/-- ITS FALSE NEIGHBOUR: 'it returns false'. Refute it at one input. -/
def fnExactGreatestProductWrong : ChangeSpec := { name := "fnExactGreatestProduct", fn := fun _ => fun
  | [d1, d2] => { results := [.lit (.bool false)], args := [d1, d2] }
  | _ => none }
def FnExactGreatestProductWrongFalsely : Prop := fnExactGreatestProductRow.holds Try.pinned (OpenSpec.ofChange fnExactGreatestProductWrong)

/-- 'laws.FnExactSumsOfProduct': WHATEVER THE INPUT: true; the input reads as it did. -/
def fnExactSumsOfProductSpec : ChangeSpec := { name := "fnExactSumsOfProduct", fn := fun _ => fun
  | [d1, d2] => { results := [.lit (.bool true)], args := [d1, d2] }
  | _ => none }
def fnExactSumsOfProductRow : OpenClaim := { program := "ytgpecpdhkecnmaa", sum := "c473e877b37df9a78617436c01284b293af49ce339674607ef37945d334702ea", func := "loop.example/g01369/laws.FnExactSumsOfProduct", spec := "fnExactSumsOfProduct", unfollowed := true, recurses := true, apart := false }
def FnExactSumsOfProductSaid : Prop := fnExactSumsOfProductRow.holds Try.pinned (OpenSpec.ofChange fnExactSumsOfProductSpec)

/-- ITS FALSE NEIGHBOUR: 'it returns false'. Refute it at one input. -/
def fnExactSumsOfProductWrong : ChangeSpec := { name := "fnExactSumsOfProduct", fn := fun _ => fun
  | [d1, d2] => { results := [.lit (.bool false)], args := [d1, d2] }
  | _ => none }
def FnExactSumsOfProductWrongFalsely : Prop := fnExactSumsOfProductRow.holds Try.pinned (OpenSpec.ofChange fnExactSumsOfProductWrong)

/-- 'laws.FnExactOpenSums': WHATEVER THE INPUT: true; the input reads as it did. -/
def fnExactOpenSumsSpec : ChangeSpec := { name := "fnExactOpenSums", fn := fun _ => fun
  | [d1, d2] => { results := [.lit (.bool true)], args := [d1, d2] }
  | _ => none }
def fnExactOpenSumsRow : OpenClaim := { program := "ytgpecpdhkecnmaa", sum := "c473e877b37df9a78617436c01284b293af49ce339674607ef37945d334702ea", func := "loop.example/g01369/laws.FnExactOpenSums", spec := "fnExactOpenSums", unfollowed := true, recurses := true, apart := false }
def FnExactOpenSumsSaid : Prop := fnExactOpenSumsRow.holds Try.pinned (OpenSpec.ofChange fnExactOpenSumsSpec)

/-- ITS FALSE NEIGHBOUR: 'it returns false'. Refute it at one input. -/
def fnExactOpenSumsWrong : ChangeSpec := { name := "fnExactOpenSums", fn := fun _ => fun
  | [d1, d2] => { results := [.lit (.bool false)], args := [d1, d2] }
  | _ => none }
def FnExactOpenSumsWrongFalsely : Prop := fnExactOpenSumsRow.holds Try.pinned (OpenSpec.ofChange fnExactOpenSumsWrong)

/- THE SECOND FORM. 'bulk': how many values and letters a reading holds, each counted each time it is reached (what is shared counts as often as it is met; a slice's spare places count too). A statement '..UptoSaid' is the law's where the arguments, and the package variables that the reading takes, are together of bulk at most 1048576: NARROWER than '..Said'. Prove '..Said' where nothing that the law and all that it calls make is longer than what came in: it says more and counts as full. Else prove '..UptoSaid'. A law counts once. -/
mutual
def uptoBulk {H : Type} : DataW H → Nat
  | .lit (.string bytes) => bytes.length + 1
  | .lit _ => 1
  | .nil => 1
  | .ptr d => uptoBulk d + 1
  | .slice elems spare => uptoBulkAll elems + uptoBulkAll spare + 1
  | .agg parts => uptoBulkAll parts + 1
  | .iface _ d => uptoBulk d + 1
  | .map entries => uptoBulkEntries entries + 1
  | .held _ => 1
def uptoBulkAll {H : Type} : List (DataW H) → Nat
  | [] => 0
  | d :: r => uptoBulk d + uptoBulkAll r
def uptoBulkEntries {H : Type} : List (Lit × DataW H) → Nat
  | [] => 0
  | x :: r => uptoBulkEntry x + uptoBulkEntries r
def uptoBulkEntry {H : Type} : Lit × DataW H → Nat
  | (.string bytes, d) => bytes.length + uptoBulk d + 1
  | (_, d) => uptoBulk d + 1
 end
def uptoSmall : (H : Type) → List (DataW H) → Bool := fun _ ds => decide (uptoBulkAll ds ≤ 1048576)
def OpenSpec.upto (s : _root_.Go.ChangeSpec) : _root_.Go.OpenSpec := { _root_.Go.OpenSpec.ofChange s with cond := some uptoSmall }

/-- 'laws.FnExactProductsOfSum', WHERE WHAT IT READS IS OF BULK AT MOST 1048576: true; the input reads as it did. -/
def fnExactProductsOfSumUptoRow : OpenClaim := { program := "ytgpecpdhkecnmaa", sum := "c473e877b37df9a78617436c01284b293af49ce339674607ef37945d334702ea", func := "loop.example/g01369/laws.FnExactProductsOfSum", spec := "fnExactProductsOfSum", unfollowed := true, recurses := true, apart := false, narrowed := true }
def FnExactProductsOfSumUptoSaid : Prop := fnExactProductsOfSumUptoRow.holds Try.pinned (OpenSpec.upto fnExactProductsOfSumSpec)

/-- 'laws.FnExactGreatestProduct', WHERE WHAT IT READS IS OF BULK AT MOST 1048576: true; the input reads as it did. -/
def fnExactGreatestProductUptoRow : OpenClaim := { program := "ytgpecpdhkecnmaa", sum := "c473e877b37df9a78617436c01284b293af49ce339674607ef37945d334702ea", func := "loop.example/g01369/laws.FnExactGreatestProduct", spec := "fnExactGreatestProduct", unfollowed := true, recurses := true, apart := false, narrowed := true }
def FnExactGreatestProductUptoSaid : Prop := fnExactGreatestProductUptoRow.holds Try.pinned (OpenSpec.upto fnExactGreatestProductSpec)

/-- 'laws.FnExactSumsOfProduct', WHERE WHAT IT READS IS OF BULK AT MOST 1048576: true; the input reads as it did. -/
def fnExactSumsOfProductUptoRow : OpenClaim := { program := "ytgpecpdhkecnmaa", sum := "c473e877b37df9a78617436c01284b293af49ce339674607ef37945d334702ea", func := "loop.example/g01369/laws.FnExactSumsOfProduct", spec := "fnExactSumsOfProduct", unfollowed := true, recurses := true, apart := false, narrowed := true }
def FnExactSumsOfProductUptoSaid : Prop := fnExactSumsOfProductUptoRow.holds Try.pinned (OpenSpec.upto fnExactSumsOfProductSpec)

/-- 'laws.FnExactOpenSums', WHERE WHAT IT READS IS OF BULK AT MOST 1048576: true; the input reads as it did. -/
def fnExactOpenSumsUptoRow : OpenClaim := { program := "ytgpecpdhkecnmaa", sum := "c473e877b37df9a78617436c01284b293af49ce339674607ef37945d334702ea", func := "loop.example/g01369/laws.FnExactOpenSums", spec := "fnExactOpenSums", unfollowed := true, recurses := true, apart := false, narrowed := true }
def FnExactOpenSumsUptoSaid : Prop := fnExactOpenSumsUptoRow.holds Try.pinned (OpenSpec.upto fnExactOpenSumsSpec)

end Rows
end Go.Proofs.Ytgpecpdhkecnmaa
