/-
  DERIVED. GIVEN WITH THE SEED: THE CARDS: each row of YtaicfmmgmblmiaaDoorRows.lean that lists a variable, with what it lists TIED to the program's text (the seventh form; the later family's looks); each row that meets fmt, with fmt's text TOLD by the authors' own Lean function (tested against real Go, not proved from fmt's source: count such statements apart). THE CARD IS WHAT COUNTS. Prove the row's statement (the work); the ties are given (YtaicfmmgmblmiaaDoorTie.lean); close each card by the builder's one call (the guide's Derived/Test/ToyasCard.lean, 'card_holds'). Laid BY PROGRAM, IN A SANDBOX (cutbox-door.mjs). By AI agents, Wed Nov 11 2026. No macro, syntax, notation, axiom, sorry.
-/
import Derived.Test.YtaicfmmgmblmiaaDoorRows
import GoSem.ClaimSeven
namespace Go.Proofs.YtaicfmmgmblmiaaDoor
namespace Rows

/-- THE TIED CARD OF 'laws.FnExactLike'. -/
def fnExactLikeCard : Claim7 := { stood := { row := fnExactLikeRow, standIns := [], harness := (true, "478e2dd7c459caec18982e74b1ccb4ded59a4a3cf970842fd547ccb902758370"), looks := false }, kinds := [], alts := [], laidByText := true, laidKinds := [.data, .pinned], laidTests := true, laidLooks := .later }
def FnExactLikeCardSaid : Prop := Claim7.holds Tryd.pinned (.plain (OpenSpec.ofChange fnExactLikeSpec)) fnExactLikeCard

/-- THE TIED CARD OF 'laws.FnExactRowBytes'. -/
def fnExactRowBytesCard : Claim7 := { stood := { row := fnExactRowBytesRow, standIns := [], harness := (true, "478e2dd7c459caec18982e74b1ccb4ded59a4a3cf970842fd547ccb902758370"), looks := false }, kinds := [], alts := [], laidByText := true, laidKinds := [.data, .pinned], laidTests := true, laidLooks := .later }
def FnExactRowBytesCardSaid : Prop := Claim7.holds Tryd.pinned (.plain (OpenSpec.ofChange fnExactRowBytesSpec)) fnExactRowBytesCard

/-- THE TIED CARD OF 'laws.FnExactRowValues'. -/
def fnExactRowValuesCard : Claim7 := { stood := { row := fnExactRowValuesRow, standIns := [], harness := (true, "478e2dd7c459caec18982e74b1ccb4ded59a4a3cf970842fd547ccb902758370"), looks := false }, kinds := [], alts := [], laidByText := true, laidKinds := [.data, .pinned], laidTests := true, laidLooks := .later }
def FnExactRowValuesCardSaid : Prop := Claim7.holds Tryd.pinned (.plain (OpenSpec.ofChange fnExactRowValuesSpec)) fnExactRowValuesCard

/-- THE SECOND FORM's CARD OF 'laws.FnExactLike'. -/
def fnExactLikeUptoCard : Claim7 := { stood := { row := fnExactLikeUptoRow, standIns := [], harness := (true, "478e2dd7c459caec18982e74b1ccb4ded59a4a3cf970842fd547ccb902758370"), looks := false }, kinds := [], alts := [], laidByText := true, laidKinds := [.data, .pinned], laidTests := true, laidLooks := .later }
def FnExactLikeUptoCardSaid : Prop := Claim7.holds Tryd.pinned (.plain (OpenSpec.upto fnExactLikeSpec)) fnExactLikeUptoCard

/-- THE SECOND FORM's CARD OF 'laws.FnExactRowBytes'. -/
def fnExactRowBytesUptoCard : Claim7 := { stood := { row := fnExactRowBytesUptoRow, standIns := [], harness := (true, "478e2dd7c459caec18982e74b1ccb4ded59a4a3cf970842fd547ccb902758370"), looks := false }, kinds := [], alts := [], laidByText := true, laidKinds := [.data, .pinned], laidTests := true, laidLooks := .later }
def FnExactRowBytesUptoCardSaid : Prop := Claim7.holds Tryd.pinned (.plain (OpenSpec.upto fnExactRowBytesSpec)) fnExactRowBytesUptoCard

/-- THE SECOND FORM's CARD OF 'laws.FnExactRowValues'. -/
def fnExactRowValuesUptoCard : Claim7 := { stood := { row := fnExactRowValuesUptoRow, standIns := [], harness := (true, "478e2dd7c459caec18982e74b1ccb4ded59a4a3cf970842fd547ccb902758370"), looks := false }, kinds := [], alts := [], laidByText := true, laidKinds := [.data, .pinned], laidTests := true, laidLooks := .later }
def FnExactRowValuesUptoCardSaid : Prop := Claim7.holds Tryd.pinned (.plain (OpenSpec.upto fnExactRowValuesSpec)) fnExactRowValuesUptoCard
end Rows
end Go.Proofs.YtaicfmmgmblmiaaDoor
