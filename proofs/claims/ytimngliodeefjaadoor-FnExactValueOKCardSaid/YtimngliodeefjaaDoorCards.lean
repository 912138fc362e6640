/-
  DERIVED. GIVEN WITH THE SEED: THE CARDS: each row of YtimngliodeefjaaDoorRows.lean that lists a variable, with what it lists TIED to the program's text (the seventh form; the later family's looks); each row that meets fmt, with fmt's text TOLD by the authors' own Lean function (tested against real Go, not proved from fmt's source: count such statements apart). THE CARD IS WHAT COUNTS. Prove the row's statement (the work); the ties are given (YtimngliodeefjaaDoorTie.lean); close each card by the builder's one call (the guide's Derived/Test/ToyasCard.lean, 'card_holds'). Laid BY PROGRAM, IN A SANDBOX (cutbox-door.mjs). By AI agents, Wed Nov 11 2026. No macro, syntax, notation, axiom, sorry.
-/
import Derived.Test.YtimngliodeefjaaDoorRows
import GoSem.ClaimSeven
namespace Go.Proofs.YtimngliodeefjaaDoor
namespace Rows

/-- THE TIED CARD OF 'laws.FnExactValueOK'. -/
def fnExactValueOKCard : Claim7 := { stood := { row := fnExactValueOKRow, standIns := [], harness := (true, "a61a6cea323191c56ffd4c7a1f4ea4543b83562fdbe12ac8f5226cff6877109a"), looks := false }, kinds := [], alts := [], laidByText := true, laidKinds := [.data, .pinned], laidTests := true, laidLooks := .later }
def FnExactValueOKCardSaid : Prop := Claim7.holds Tryd.pinned (.plain (OpenSpec.ofChange fnExactValueOKSpec)) fnExactValueOKCard

/-- THE SECOND FORM's CARD OF 'laws.FnExactValueOK'. -/
def fnExactValueOKUptoCard : Claim7 := { stood := { row := fnExactValueOKUptoRow, standIns := [], harness := (true, "a61a6cea323191c56ffd4c7a1f4ea4543b83562fdbe12ac8f5226cff6877109a"), looks := false }, kinds := [], alts := [], laidByText := true, laidKinds := [.data, .pinned], laidTests := true, laidLooks := .later }
def FnExactValueOKUptoCardSaid : Prop := Claim7.holds Tryd.pinned (.plain (OpenSpec.upto fnExactValueOKSpec)) fnExactValueOKUptoCard
end Rows
end Go.Proofs.YtimngliodeefjaaDoor
