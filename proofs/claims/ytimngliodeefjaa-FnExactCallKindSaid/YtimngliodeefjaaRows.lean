/-
  No cell of these rows narrows 'for every input' (looked for: loops, veiled, ifaces, maps, wideKeys, modest, calm, conditions, laid).
  DERIVED. THE GIVEN ROWS OF THIS SEAT. 6 by the template 'for every input the law returns true; each argument reads behind the call as it read before'; 0 by the template 'total and deterministic' (their statements: YtimngliodeefjaaTotals.lean).
  GIVEN WITH THE SEED: the statements are not yours to turn. If you find one false, say at which input.
  Laid BY PROGRAM, IN A SANDBOX (cutbox-rows.mjs): the forced cells as the released guide's own fill.sh prints them over the translation e0a4d25e347ba2ff… (all of the seat's roots in one cut). By AI agents, Wed Nov 11 2026. No macro, syntax, notation, axiom, sorry.
-/
import Derived.Test.YtimngliodeefjaaChecked
import GoSem.Claim
import GoSem.ClaimJoined
import GoSem.ClaimMapViews
import Derived.JoinedTies
import Derived.KernelRfl
namespace Go.Proofs.Ytimngliodeefjaa
/- THE CELL 'sum', in the pinned program and in every row, IS THE sha256 OF THE DUMP (.gsa) THAT YtimngliodeefjaaProg.lean LOADS. Nothing in Lean hashes anything: it is a label: what it is worth is what the hold of that sum in a sandbox is worth. -/
noncomputable def Try.pinned : Pinned := { name := "ytimngliodeefjaa", sum := "e0a4d25e347ba2ff3c56566a136252793708a01342a31d241df07eb6fc3be04f", checked := Try.checked }
namespace Rows
def none {H : Type} : Left H := { results := [], args := [] }

/-- 'laws.FnExactConstants': WHATEVER THE INPUT: true; the input reads as it did. -/
def fnExactConstantsSpec : ChangeSpec := { name := "fnExactConstants", fn := fun _ => fun
  | [] => { results := [.lit (.bool true)], args := [] }
  | _ => none }
def fnExactConstantsRow : OpenClaim := { program := "ytimngliodeefjaa", sum := "e0a4d25e347ba2ff3c56566a136252793708a01342a31d241df07eb6fc3be04f", func := "loop.example/g00001/laws.FnExactConstants", spec := "fnExactConstants", apart := false }
def FnExactConstantsSaid : Prop := fnExactConstantsRow.holds Try.pinned (OpenSpec.ofChange fnExactConstantsSpec)

/-- ITS FALSE NEIGHBOUR: 'it returns false'. Refute it at one input. -/
def fnExactConstantsWrong : ChangeSpec := { name := "fnExactConstants", fn := fun _ => fun
  | [] => { results := [.lit (.bool false)], args := [] }
  | _ => none }
def FnExactConstantsWrongFalsely : Prop := fnExactConstantsRow.holds Try.pinned (OpenSpec.ofChange fnExactConstantsWrong)

/-- 'laws.FnExactCastKind': WHATEVER THE INPUT: true; the input reads as it did. -/
def fnExactCastKindSpec : ChangeSpec := { name := "fnExactCastKind", fn := fun _ => fun
  | [d1, d2] => { results := [.lit (.bool true)], args := [d1, d2] }
  | _ => none }
def fnExactCastKindRow : OpenClaim := { program := "ytimngliodeefjaa", sum := "e0a4d25e347ba2ff3c56566a136252793708a01342a31d241df07eb6fc3be04f", func := "loop.example/g00001/laws.FnExactCastKind", spec := "fnExactCastKind", apart := false }
def FnExactCastKindSaid : Prop := fnExactCastKindRow.holds Try.pinned (OpenSpec.ofChange fnExactCastKindSpec)

/-- ITS FALSE NEIGHBOUR: 'it returns false'. Refute it at one input. -/
def fnExactCastKindWrong : ChangeSpec := { name := "fnExactCastKind", fn := fun _ => fun
  | [d1, d2] => { results := [.lit (.bool false)], args := [d1, d2] }
  | _ => none }
def FnExactCastKindWrongFalsely : Prop := fnExactCastKindRow.holds Try.pinned (OpenSpec.ofChange fnExactCastKindWrong)

/-- 'laws.FnExactDateOf': WHATEVER THE INPUT: true; the input reads as it did. -/
def fnExactDateOfSpec : ChangeSpec := { name := "fnExactDateOf", fn := fun _ => fun
  | [d1, d2, d3] => { results := [.lit (.bool true)], args := [d1, d2, d3] }
  | _ => none }
def fnExactDateOfRow : OpenClaim := { program := "ytimngliodeefjaa", sum := "e0a4d25e347ba2ff3c56566a136252793708a01342a31d241df07eb6fc3be04f", func := "loop.example/g00001/laws.FnExactDateOf", spec := "fnExactDateOf", apart := false }
def FnExactDateOfSaid : Prop := fnExactDateOfRow.holds Try.pinned (OpenSpec.ofChange fnExactDateOfSpec)

/-- ITS FALSE NEIGHBOUR: 'it returns false'. Refute it at one input. -/
def fnExactDateOfWrong : ChangeSpec := { name := "fnExactDateOf", fn := fun _ => fun
  | [d1, d2, d3] => { results := [.lit (.bool false)], args := [d1, d2, d3] }
  | _ => none }
def FnExactDateOfWrongFalsely : Prop := fnExactDateOfRow.holds Try.pinned (OpenSpec.ofChange fnExactDateOfWrong)

/-- 'laws.FnExactDateParts': WHATEVER THE INPUT: true; the input reads as it did. -/
def fnExactDatePartsSpec : ChangeSpec := { name := "fnExactDateParts", fn := fun _ => fun
  | [d] => { results := [.lit (.bool true)], args := [d] }
  | _ => none }
def fnExactDatePartsRow : OpenClaim := { program := "ytimngliodeefjaa", sum := "e0a4d25e347ba2ff3c56566a136252793708a01342a31d241df07eb6fc3be04f", func := "loop.example/g00001/laws.FnExactDateParts", spec := "fnExactDateParts", apart := false }
def FnExactDatePartsSaid : Prop := fnExactDatePartsRow.holds Try.pinned (OpenSpec.ofChange fnExactDatePartsSpec)

/-- ITS FALSE NEIGHBOUR: 'it returns false'. Refute it at one input. -/
def fnExactDatePartsWrong : ChangeSpec := { name := "fnExactDateParts", fn := fun _ => fun
  | [d] => { results := [.lit (.bool false)], args := [d] }
  | _ => none }
def FnExactDatePartsWrongFalsely : Prop := fnExactDatePartsRow.holds Try.pinned (OpenSpec.ofChange fnExactDatePartsWrong)

/-- 'laws.FnExactOpKind': WHATEVER THE INPUT: true; the input reads as it did. -/
def fnExactOpKindSpec : ChangeSpec := { name := "fnExactOpKind", fn := fun _ => fun
  | [d1, d2, d3] => { results := [.lit (.bool true)], args := [d1, d2, d3] }
  | _ => none }
def fnExactOpKindRow : OpenClaim := { program := "ytimngliodeefjaa", sum := "e0a4d25e347ba2ff3c56566a136252793708a01342a31d241df07eb6fc3be04f", func := "loop.example/g00001/laws.FnExactOpKind", spec := "fnExactOpKind", apart := false }
def FnExactOpKindSaid : Prop := fnExactOpKindRow.holds Try.pinned (OpenSpec.ofChange fnExactOpKindSpec)

/-- ITS FALSE NEIGHBOUR: 'it returns false'. Refute it at one input. -/
def fnExactOpKindWrong : ChangeSpec := { name := "fnExactOpKind", fn := fun _ => fun
  | [d1, d2, d3] => { results := [.lit (.bool false)], args := [d1, d2, d3] }
  | _ => none }
def FnExactOpKindWrongFalsely : Prop := fnExactOpKindRow.holds Try.pinned (OpenSpec.ofChange fnExactOpKindWrong)

/-- 'laws.FnExactCallKind': WHATEVER THE INPUT: true; the input reads as it did. -/
def fnExactCallKindSpec : ChangeSpec := { name := "fnExactCallKind", fn := fun _ => fun
  | [d1, d2] => { results := [.lit (.bool true)], args := [d1, d2] }
  | _ => none }
def fnExactCallKindRow : OpenClaim := { program := "ytimngliodeefjaa", sum := "e0a4d25e347ba2ff3c56566a136252793708a01342a31d241df07eb6fc3be04f", func := "loop.example/g00001/laws.FnExactCallKind", spec := "fnExactCallKind", unfollowed := true, recurses := true, apart := false }
def FnExactCallKindSaid : Prop := fnExactCallKindRow.holds Try.pinned (OpenSpec.ofChange fnExactCallKindSpec)

/-- ITS FALSE NEIGHBOUR: 'it returns false'. Refute it at one input. -/
def fnExactCallKindWrong : ChangeSpec := { name := "fnExactCallKind", fn := fun _ => fun
  | [d1, d2] => { results := [.lit (.bool false)], args := [d1, d2] }
  | _ => none }
def FnExactCallKindWrongFalsely : Prop := fnExactCallKindRow.holds Try.pinned (OpenSpec.ofChange fnExactCallKindWrong)

/- THE SECOND FORM. 'bulk': how many values and letters a reading holds, each counted each time it is reached (what is shared counts as often as it is met; a slice's spare places count too). A statement '..UptoSaid' is the law's where the arguments, and the package variables that the reading takes, are together of bulk at most 1048576: NARROWER than '..Said'. Prove '..Said' where nothing that the law and all that it calls make is longer than what came in: it says more and counts as full. Else prove '..UptoSaid'. A law counts once. -/
mutual
def uptoBulk {H : Type} : DataW H → Nat
  | .lit (.string bytes) => bytes.length + 1
  | .lit _ => 1
  | .nil => 1
  | .ptr d => uptoBulk d + 1
  | .slice elems spare => uptoBulkAll elems + uptoBulkAll spare + 1
  | .agg parts => uptoBulkAll parts + 1
  | .iface _ d => uptoBulk d + 1
  | .map entries => uptoBulkEntries entries + 1
  | .held _ => 1
def uptoBulkAll {H : Type} : List (DataW H) → Nat
  | [] => 0
  | d :: r => uptoBulk d + uptoBulkAll r
def uptoBulkEntries {H : Type} : List (Lit × DataW H) → Nat
  | [] => 0
  | x :: r => uptoBulkEntry x + uptoBulkEntries r
def uptoBulkEntry {H : Type} : Lit × DataW H → Nat
  | (.string bytes, d) => bytes.length + uptoBulk d + 1
  | (_, d) => uptoBulk d + 1
 end
def uptoSmall : (H : Type) → List (DataW H) → Bool := fun _ ds => decide (uptoBulkAll ds ≤ 1048576)
def OpenSpec.upto (s : _root_.Go.ChangeSpec) : _root_.Go.OpenSpec := { _root_.Go.OpenSpec.ofChange s with cond := some uptoSmall }

/-- 'laws.FnExactConstants', WHERE WHAT IT READS IS OF BULK AT MOST 1048576: true; the input reads as it did. -/
def fnExactConstantsUptoRow : OpenClaim := { program := "ytimngliodeefjaa", sum := "e0a4d25e347ba2ff3c56566a136252793708a01342a31d241df07eb6fc3be04f", func := "loop.example/g00001/laws.FnExactConstants", spec := "fnExactConstants", apart := false, narrowed := true }
def FnExactConstantsUptoSaid : Prop := fnExactConstantsUptoRow.holds Try.pinned (OpenSpec.upto fnExactConstantsSpec)

/-- 'laws.FnExactCastKind', WHERE WHAT IT READS IS OF BULK AT MOST 1048576: true; the input reads as it did. -/
def fnExactCastKindUptoRow : OpenClaim := { program := "ytimngliodeefjaa", sum := "e0a4d25e347ba2ff3c56566a136252793708a01342a31d241df07eb6fc3be04f", func := "loop.example/g00001/laws.FnExactCastKind", spec := "fnExactCastKind", apart := false, narrowed := true }
def FnExactCastKindUptoSaid : Prop := fnExactCastKindUptoRow.holds Try.pinned (OpenSpec.upto fnExactCastKindSpec)

/-- 'laws.FnExactDateOf', WHERE WHAT IT READS IS OF BULK AT MOST 1048576: true; the input reads as it did. -/
def fnExactDateOfUptoRow : OpenClaim := { program := "ytimngliodeefjaa", sum := "e0a4d25e347ba2ff3c56566a136252793708a01342a31d241df07eb6fc3be04f", func := "loop.example/g00001/laws.FnExactDateOf", spec := "fnExactDateOf", apart := false, narrowed := true }
def FnExactDateOfUptoSaid : Prop := fnExactDateOfUptoRow.holds Try.pinned (OpenSpec.upto fnExactDateOfSpec)

/-- 'laws.FnExactDateParts', WHERE WHAT IT READS IS OF BULK AT MOST 1048576: true; the input reads as it did. -/
def fnExactDatePartsUptoRow : OpenClaim := { program := "ytimngliodeefjaa", sum := "e0a4d25e347ba2ff3c56566a136252793708a01342a31d241df07eb6fc3be04f", func := "loop.example/g00001/laws.FnExactDateParts", spec := "fnExactDateParts", apart := false, narrowed := true }
def FnExactDatePartsUptoSaid : Prop := fnExactDatePartsUptoRow.holds Try.pinned (OpenSpec.upto fnExactDatePartsSpec)

/-- 'laws.FnExactOpKind', WHERE WHAT IT READS IS OF BULK AT MOST 1048576: true; the input reads as it did. -/
def fnExactOpKindUptoRow : OpenClaim := { program := "ytimngliodeefjaa", sum := "e0a4d25e347ba2ff3c56566a136252793708a01342a31d241df07eb6fc3be04f", func := "loop.example/g00001/laws.FnExactOpKind", spec := "fnExactOpKind", apart := false, narrowed := true }
def FnExactOpKindUptoSaid : Prop := fnExactOpKindUptoRow.holds Try.pinned (OpenSpec.upto fnExactOpKindSpec)

/-- 'laws.FnExactCallKind', WHERE WHAT IT READS IS OF BULK AT MOST 1048576: true; the input reads as it did. -/
def fnExactCallKindUptoRow : OpenClaim := { program := "ytimngliodeefjaa", sum := "e0a4d25e347ba2ff3c56566a136252793708a01342a31d241df07eb6fc3be04f", func := "loop.example/g00001/laws.FnExactCallKind", spec := "fnExactCallKind", unfollowed := true, recurses := true, apart := false, narrowed := true }
def FnExactCallKindUptoSaid : Prop := fnExactCallKindUptoRow.holds Try.pinned (OpenSpec.upto fnExactCallKindSpec)

end Rows
end Go.Proofs.Ytimngliodeefjaa
