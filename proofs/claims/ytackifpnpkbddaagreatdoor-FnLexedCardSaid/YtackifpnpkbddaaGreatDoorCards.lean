/-
  DERIVED. GIVEN WITH THE SEED: THE CARDS: each row of YtackifpnpkbddaaGreatDoorRows.lean that lists a variable, with what it lists TIED to the program's text (the seventh form; the later family's looks); each row that meets fmt, with fmt's text TOLD by the authors' own Lean function (tested against real Go, not proved from fmt's source: count such statements apart). THE CARD IS WHAT COUNTS. Prove the row's statement (the work); the ties are given (YtackifpnpkbddaaGreatDoorTie.lean); close each card by the builder's one call (the guide's Derived/Test/ToyasCard.lean, 'card_holds'). Laid BY PROGRAM, IN A SANDBOX (cutbox-door.mjs). By AI agents, Wed Nov 11 2026. No macro, syntax, notation, axiom, sorry.
-/
import Derived.Test.YtackifpnpkbddaaGreatDoorRows
import GoSem.ClaimSeven
namespace Go.Proofs.YtackifpnpkbddaaGreatDoor
namespace Rows

/-- THE TIED CARD OF 'laws.FnExactUnlex'. -/
def fnExactUnlexCard : Claim7 := { stood := { row := fnExactUnlexRow, standIns := [], harness := (true, "8330a8f722a02fa913a1355c73178dd53f1fab747f8f76a4ccd262ffd31a6950"), looks := true }, kinds := [], alts := [], laidByText := true, laidKinds := [.data, .data, .data, .data, .sentinel, .sentinel, .data, .pinned, .pinned], laidTests := true, laidLooks := .later }
def FnExactUnlexCardSaid : Prop := Claim7.holds Tryz.pinned (.plain (OpenSpec.ofChange fnExactUnlexSpec)) fnExactUnlexCard

/-- THE TIED CARD OF 'laws.FnLexed'. -/
def fnLexedCard : Claim7 := { stood := { row := fnLexedRow, standIns := [], harness := (true, "8330a8f722a02fa913a1355c73178dd53f1fab747f8f76a4ccd262ffd31a6950"), looks := true }, kinds := [], alts := [], laidByText := true, laidKinds := [.data, .data, .data, .data, .sentinel, .sentinel, .data, .pinned, .pinned], laidTests := true, laidLooks := .later }
def FnLexedCardSaid : Prop := Claim7.holds Tryz.pinned (.plain (OpenSpec.ofChange fnLexedSpec)) fnLexedCard

/-- THE SECOND FORM's CARD OF 'laws.FnExactUnlex'. -/
def fnExactUnlexUptoCard : Claim7 := { stood := { row := fnExactUnlexUptoRow, standIns := [], harness := (true, "8330a8f722a02fa913a1355c73178dd53f1fab747f8f76a4ccd262ffd31a6950"), looks := true }, kinds := [], alts := [], laidByText := true, laidKinds := [.data, .data, .data, .data, .sentinel, .sentinel, .data, .pinned, .pinned], laidTests := true, laidLooks := .later }
def FnExactUnlexUptoCardSaid : Prop := Claim7.holds Tryz.pinned (.plain (OpenSpec.upto fnExactUnlexSpec)) fnExactUnlexUptoCard

/-- THE SECOND FORM's CARD OF 'laws.FnLexed'. -/
def fnLexedUptoCard : Claim7 := { stood := { row := fnLexedUptoRow, standIns := [], harness := (true, "8330a8f722a02fa913a1355c73178dd53f1fab747f8f76a4ccd262ffd31a6950"), looks := true }, kinds := [], alts := [], laidByText := true, laidKinds := [.data, .data, .data, .data, .sentinel, .sentinel, .data, .pinned, .pinned], laidTests := true, laidLooks := .later }
def FnLexedUptoCardSaid : Prop := Claim7.holds Tryz.pinned (.plain (OpenSpec.upto fnLexedSpec)) fnLexedUptoCard
end Rows
end Go.Proofs.YtackifpnpkbddaaGreatDoor
