/-
  DERIVED. GIVEN WITH THE SEED: THE CARDS: each row of YtibdnpghpbimmaaDoorRows.lean that lists a variable, with what it lists TIED to the program's text (the seventh form; the later family's looks); each row that meets fmt, with fmt's text TOLD by the authors' own Lean function (tested against real Go, not proved from fmt's source: count such statements apart). THE CARD IS WHAT COUNTS. Prove the row's statement (the work); the ties are given (YtibdnpghpbimmaaDoorTie.lean); close each card by the builder's one call (the guide's Derived/Test/ToyasCard.lean, 'card_holds'). Laid BY PROGRAM, IN A SANDBOX (cutbox-door.mjs). By AI agents, Wed Nov 11 2026. No macro, syntax, notation, axiom, sorry.
-/
import Derived.Test.YtibdnpghpbimmaaDoorRows
import GoSem.ClaimSeven
namespace Go.Proofs.YtibdnpghpbimmaaDoor
namespace Rows

/-- THE TIED CARD OF 'laws.FnExactParseBirths'. -/
def fnExactParseBirthsCard : Claim7 := { stood := { row := fnExactParseBirthsRow, standIns := [], harness := (true, "2b86abf59274969d2ffb7dec4c874fe79ee9a3675d7f5f35ad6c51b8f49f94fe"), looks := true }, kinds := [], alts := [], laidByText := true, laidKinds := [.data, .data, .data, .data, .sentinel, .sentinel, .pinned], laidTests := true, laidLooks := .later }
def FnExactParseBirthsCardSaid : Prop := Claim7.holds Tryd.pinned (.plain (OpenSpec.ofChange fnExactParseBirthsSpec)) fnExactParseBirthsCard

/-- THE SECOND FORM's CARD OF 'laws.FnExactParseBirths'. -/
def fnExactParseBirthsUptoCard : Claim7 := { stood := { row := fnExactParseBirthsUptoRow, standIns := [], harness := (true, "2b86abf59274969d2ffb7dec4c874fe79ee9a3675d7f5f35ad6c51b8f49f94fe"), looks := true }, kinds := [], alts := [], laidByText := true, laidKinds := [.data, .data, .data, .data, .sentinel, .sentinel, .pinned], laidTests := true, laidLooks := .later }
def FnExactParseBirthsUptoCardSaid : Prop := Claim7.holds Tryd.pinned (.plain (OpenSpec.upto fnExactParseBirthsSpec)) fnExactParseBirthsUptoCard
end Rows
end Go.Proofs.YtibdnpghpbimmaaDoor
