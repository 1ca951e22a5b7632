/-
  No cell of these rows narrows 'for every input' (looked for: loops, veiled, ifaces, maps, wideKeys, modest, calm, conditions, laid).
  DERIVED. THE GIVEN ROWS OF THIS SEAT. 14 by the template 'for every input the law returns true; each argument reads behind the call as it read before'; 0 by the template 'total and deterministic' (their statements: YtafdakamibpjaaaTotals.lean).
  GIVEN WITH THE SEED: the statements are not yours to turn. If you find one false, say at which input.
  Laid BY PROGRAM, IN A SANDBOX (cutbox-rows.mjs): the forced cells as the released guide's own fill.sh prints them over the translation 3ce710babf731413… (all of the seat's roots in one cut). By AI agents, Wed Nov 11 2026. No macro, syntax, notation, axiom, sorry.
-/
import Derived.Test.YtafdakamibpjaaaChecked
import GoSem.Claim
import GoSem.ClaimJoined
import GoSem.ClaimMapViews
import Derived.JoinedTies
import Derived.KernelRfl
namespace Go.Proofs.Ytafdakamibpjaaa
/- THE CELL 'sum', in the pinned program and in every row, IS THE sha256 OF THE DUMP (.gsa) THAT YtafdakamibpjaaaProg.lean LOADS. Nothing in Lean hashes anything: it is a label: what it is worth is what the hold of that sum in a sandbox is worth. -/
noncomputable def Try.pinned : Pinned := { name := "ytafdakamibpjaaa", sum := "3ce710babf7314136ea3fb545b0941013f2e9a5651f2eb628a25cff14e8d421c", checked := Try.checked }
namespace Rows
def none {H : Type} : Left H := { results := [], args := [] }

/-- 'laws.FnExactIsMatrix': WHATEVER THE INPUT: true; the input reads as it did. -/
def fnExactIsMatrixSpec : ChangeSpec := { name := "fnExactIsMatrix", fn := fun _ => fun
  | [d1, d2, d3] => { results := [.lit (.bool true)], args := [d1, d2, d3] }
  | _ => none }
def fnExactIsMatrixRow : OpenClaim := { program := "ytafdakamibpjaaa", sum := "3ce710babf7314136ea3fb545b0941013f2e9a5651f2eb628a25cff14e8d421c", func := "loop.example/g01285/laws.FnExactIsMatrix", spec := "fnExactIsMatrix", unfollowed := true, recurses := true, plainKeys := false, apart := false }
def FnExactIsMatrixSaid : Prop := fnExactIsMatrixRow.holds Try.pinned (OpenSpec.ofChange fnExactIsMatrixSpec)

/-- ITS FALSE NEIGHBOUR: 'it returns false'. Refute it at one input. -/
def fnExactIsMatrixWrong : ChangeSpec := { name := "fnExactIsMatrix", fn := fun _ => fun
  | [d1, d2, d3] => { results := [.lit (.bool false)], args := [d1, d2, d3] }
  | _ => none }
def FnExactIsMatrixWrongFalsely : Prop := fnExactIsMatrixRow.holds Try.pinned (OpenSpec.ofChange fnExactIsMatrixWrong)

/-- 'laws.FnExactDeterminantOf': WHATEVER THE INPUT: true; the input reads as it did. -/
def fnExactDeterminantOfSpec : ChangeSpec := { name := "fnExactDeterminantOf", fn := fun _ => fun
  | [d1, d2, d3] => { results := [.lit (.bool true)], args := [d1, d2, d3] }
  | _ => none }
def fnExactDeterminantOfRow : OpenClaim := { program := "ytafdakamibpjaaa", sum := "3ce710babf7314136ea3fb545b0941013f2e9a5651f2eb628a25cff14e8d421c", func := "loop.example/g01285/laws.FnExactDeterminantOf", spec := "fnExactDeterminantOf", unfollowed := true, recurses := true, plainKeys := false, apart := false }
def FnExactDeterminantOfSaid : Prop := fnExactDeterminantOfRow.holds Try.pinned (OpenSpec.ofChange fnExactDeterminantOfSpec)

/-- ITS FALSE NEIGHBOUR: 'it returns false'. Refute it at one input. -/
def fnExactDeterminantOfWrong : ChangeSpec := { name := "fnExactDeterminantOf", fn := fun _ => fun
  | [d1, d2, d3] => { results := [.lit (.bool false)], args := [d1, d2, d3] }
  | _ => none }
def FnExactDeterminantOfWrongFalsely : Prop := fnExactDeterminantOfRow.holds Try.pinned (OpenSpec.ofChange fnExactDeterminantOfWrong)

/-- 'laws.FnExactMultiplyMatrices': WHATEVER THE INPUT: true; the input reads as it did. -/
def fnExactMultiplyMatricesSpec : ChangeSpec := { name := "fnExactMultiplyMatrices", fn := fun _ => fun
  | [d1, d2, d3, d4] => { results := [.lit (.bool true)], args := [d1, d2, d3, d4] }
  | _ => none }
def fnExactMultiplyMatricesRow : OpenClaim := { program := "ytafdakamibpjaaa", sum := "3ce710babf7314136ea3fb545b0941013f2e9a5651f2eb628a25cff14e8d421c", func := "loop.example/g01285/laws.FnExactMultiplyMatrices", spec := "fnExactMultiplyMatrices", unfollowed := true, recurses := true, plainKeys := false, apart := false }
def FnExactMultiplyMatricesSaid : Prop := fnExactMultiplyMatricesRow.holds Try.pinned (OpenSpec.ofChange fnExactMultiplyMatricesSpec)

/-- ITS FALSE NEIGHBOUR: 'it returns false'. Refute it at one input. -/
def fnExactMultiplyMatricesWrong : ChangeSpec := { name := "fnExactMultiplyMatrices", fn := fun _ => fun
  | [d1, d2, d3, d4] => { results := [.lit (.bool false)], args := [d1, d2, d3, d4] }
  | _ => none }
def FnExactMultiplyMatricesWrongFalsely : Prop := fnExactMultiplyMatricesRow.holds Try.pinned (OpenSpec.ofChange fnExactMultiplyMatricesWrong)

/-- 'laws.FnExactOrderOfMatrix': WHATEVER THE INPUT: true; the input reads as it did. -/
def fnExactOrderOfMatrixSpec : ChangeSpec := { name := "fnExactOrderOfMatrix", fn := fun _ => fun
  | [d1, d2, d3] => { results := [.lit (.bool true)], args := [d1, d2, d3] }
  | _ => none }
def fnExactOrderOfMatrixRow : OpenClaim := { program := "ytafdakamibpjaaa", sum := "3ce710babf7314136ea3fb545b0941013f2e9a5651f2eb628a25cff14e8d421c", func := "loop.example/g01285/laws.FnExactOrderOfMatrix", spec := "fnExactOrderOfMatrix", unfollowed := true, recurses := true, plainKeys := false, apart := false }
def FnExactOrderOfMatrixSaid : Prop := fnExactOrderOfMatrixRow.holds Try.pinned (OpenSpec.ofChange fnExactOrderOfMatrixSpec)

/-- ITS FALSE NEIGHBOUR: 'it returns false'. Refute it at one input. -/
def fnExactOrderOfMatrixWrong : ChangeSpec := { name := "fnExactOrderOfMatrix", fn := fun _ => fun
  | [d1, d2, d3] => { results := [.lit (.bool false)], args := [d1, d2, d3] }
  | _ => none }
def FnExactOrderOfMatrixWrongFalsely : Prop := fnExactOrderOfMatrixRow.holds Try.pinned (OpenSpec.ofChange fnExactOrderOfMatrixWrong)

/-- 'laws.FnExactIsGroup': WHATEVER THE INPUT: true; the input reads as it did. -/
def fnExactIsGroupSpec : ChangeSpec := { name := "fnExactIsGroup", fn := fun _ => fun
  | [d] => { results := [.lit (.bool true)], args := [d] }
  | _ => none }
def fnExactIsGroupRow : OpenClaim := { program := "ytafdakamibpjaaa", sum := "3ce710babf7314136ea3fb545b0941013f2e9a5651f2eb628a25cff14e8d421c", func := "loop.example/g01285/laws.FnExactIsGroup", spec := "fnExactIsGroup", inPlace := ["internal/bytealg.Compare"], unfollowed := true, recurses := true, plainKeys := false, apart := false }
def FnExactIsGroupSaid : Prop := fnExactIsGroupRow.holds Try.pinned (OpenSpec.ofChange fnExactIsGroupSpec)

/-- ITS FALSE NEIGHBOUR: 'it returns false'. Refute it at one input. -/
def fnExactIsGroupWrong : ChangeSpec := { name := "fnExactIsGroup", fn := fun _ => fun
  | [d] => { results := [.lit (.bool false)], args := [d] }
  | _ => none }
def FnExactIsGroupWrongFalsely : Prop := fnExactIsGroupRow.holds Try.pinned (OpenSpec.ofChange fnExactIsGroupWrong)

/-- 'laws.FnExactIsModular': WHATEVER THE INPUT: true; the input reads as it did. -/
def fnExactIsModularSpec : ChangeSpec := { name := "fnExactIsModular", fn := fun _ => fun
  | [d] => { results := [.lit (.bool true)], args := [d] }
  | _ => none }
def fnExactIsModularRow : OpenClaim := { program := "ytafdakamibpjaaa", sum := "3ce710babf7314136ea3fb545b0941013f2e9a5651f2eb628a25cff14e8d421c", func := "loop.example/g01285/laws.FnExactIsModular", spec := "fnExactIsModular", inPlace := ["internal/bytealg.Compare"], unfollowed := true, recurses := true, plainKeys := false, apart := false }
def FnExactIsModularSaid : Prop := fnExactIsModularRow.holds Try.pinned (OpenSpec.ofChange fnExactIsModularSpec)

/-- ITS FALSE NEIGHBOUR: 'it returns false'. Refute it at one input. -/
def fnExactIsModularWrong : ChangeSpec := { name := "fnExactIsModular", fn := fun _ => fun
  | [d] => { results := [.lit (.bool false)], args := [d] }
  | _ => none }
def FnExactIsModularWrongFalsely : Prop := fnExactIsModularRow.holds Try.pinned (OpenSpec.ofChange fnExactIsModularWrong)

/-- 'laws.FnExactCentreOf': WHATEVER THE INPUT: true; the input reads as it did. -/
def fnExactCentreOfSpec : ChangeSpec := { name := "fnExactCentreOf", fn := fun _ => fun
  | [d] => { results := [.lit (.bool true)], args := [d] }
  | _ => none }
def fnExactCentreOfRow : OpenClaim := { program := "ytafdakamibpjaaa", sum := "3ce710babf7314136ea3fb545b0941013f2e9a5651f2eb628a25cff14e8d421c", func := "loop.example/g01285/laws.FnExactCentreOf", spec := "fnExactCentreOf", inPlace := ["internal/bytealg.Compare"], unfollowed := true, recurses := true, plainKeys := false, apart := false }
def FnExactCentreOfSaid : Prop := fnExactCentreOfRow.holds Try.pinned (OpenSpec.ofChange fnExactCentreOfSpec)

/-- ITS FALSE NEIGHBOUR: 'it returns false'. Refute it at one input. -/
def fnExactCentreOfWrong : ChangeSpec := { name := "fnExactCentreOf", fn := fun _ => fun
  | [d] => { results := [.lit (.bool false)], args := [d] }
  | _ => none }
def FnExactCentreOfWrongFalsely : Prop := fnExactCentreOfRow.holds Try.pinned (OpenSpec.ofChange fnExactCentreOfWrong)

/-- 'laws.FnExactInverseMatrix': WHATEVER THE INPUT: true; the input reads as it did. -/
def fnExactInverseMatrixSpec : ChangeSpec := { name := "fnExactInverseMatrix", fn := fun _ => fun
  | [d1, d2, d3] => { results := [.lit (.bool true)], args := [d1, d2, d3] }
  | _ => none }
def fnExactInverseMatrixRow : OpenClaim := { program := "ytafdakamibpjaaa", sum := "3ce710babf7314136ea3fb545b0941013f2e9a5651f2eb628a25cff14e8d421c", func := "loop.example/g01285/laws.FnExactInverseMatrix", spec := "fnExactInverseMatrix", unfollowed := true, recurses := true, plainKeys := false, apart := false }
def FnExactInverseMatrixSaid : Prop := fnExactInverseMatrixRow.holds Try.pinned (OpenSpec.ofChange fnExactInverseMatrixSpec)

/-- ITS FALSE NEIGHBOUR: 'it returns false'. Refute it at one input. -/
def fnExactInverseMatrixWrong : ChangeSpec := { name := "fnExactInverseMatrix", fn := fun _ => fun
  | [d1, d2, d3] => { results := [.lit (.bool false)], args := [d1, d2, d3] }
  | _ => none }
def FnExactInverseMatrixWrongFalsely : Prop := fnExactInverseMatrixRow.holds Try.pinned (OpenSpec.ofChange fnExactInverseMatrixWrong)

/-- 'laws.FnExactReduceRows': WHATEVER THE INPUT: true; the input reads as it did. -/
def fnExactReduceRowsSpec : ChangeSpec := { name := "fnExactReduceRows", fn := fun _ => fun
  | [d1, d2, d3] => { results := [.lit (.bool true)], args := [d1, d2, d3] }
  | _ => none }
def fnExactReduceRowsRow : OpenClaim := { program := "ytafdakamibpjaaa", sum := "3ce710babf7314136ea3fb545b0941013f2e9a5651f2eb628a25cff14e8d421c", func := "loop.example/g01285/laws.FnExactReduceRows", spec := "fnExactReduceRows", unfollowed := true, recurses := true, plainKeys := false, apart := false }
def FnExactReduceRowsSaid : Prop := fnExactReduceRowsRow.holds Try.pinned (OpenSpec.ofChange fnExactReduceRowsSpec)

/-- ITS FALSE NEIGHBOUR: 'it returns false'. Refute it at one input. -/
def fnExactReduceRowsWrong : ChangeSpec := { name := "fnExactReduceRows", fn := fun _ => fun
  | [d1, d2, d3] => { results := [.lit (.bool false)], args := [d1, d2, d3] }
  | _ => none }
def FnExactReduceRowsWrongFalsely : Prop := fnExactReduceRowsRow.holds Try.pinned (OpenSpec.ofChange fnExactReduceRowsWrong)

/-- 'laws.FnExactAddPolys': WHATEVER THE INPUT: true; the input reads as it did. -/
def fnExactAddPolysSpec : ChangeSpec := { name := "fnExactAddPolys", fn := fun _ => fun
  | [d1, d2, d3] => { results := [.lit (.bool true)], args := [d1, d2, d3] }
  | _ => none }
def fnExactAddPolysRow : OpenClaim := { program := "ytafdakamibpjaaa", sum := "3ce710babf7314136ea3fb545b0941013f2e9a5651f2eb628a25cff14e8d421c", func := "loop.example/g01285/laws.FnExactAddPolys", spec := "fnExactAddPolys", unfollowed := true, recurses := true, plainKeys := false, apart := false }
def FnExactAddPolysSaid : Prop := fnExactAddPolysRow.holds Try.pinned (OpenSpec.ofChange fnExactAddPolysSpec)

/-- ITS FALSE NEIGHBOUR: 'it returns false'. Refute it at one input. -/
def fnExactAddPolysWrong : ChangeSpec := { name := "fnExactAddPolys", fn := fun _ => fun
  | [d1, d2, d3] => { results := [.lit (.bool false)], args := [d1, d2, d3] }
  | _ => none }
def FnExactAddPolysWrongFalsely : Prop := fnExactAddPolysRow.holds Try.pinned (OpenSpec.ofChange fnExactAddPolysWrong)

/-- 'laws.FnExactMultiplyPolys': WHATEVER THE INPUT: true; the input reads as it did. -/
def fnExactMultiplyPolysSpec : ChangeSpec := { name := "fnExactMultiplyPolys", fn := fun _ => fun
  | [d1, d2] => { results := [.lit (.bool true)], args := [d1, d2] }
  | _ => none }
def fnExactMultiplyPolysRow : OpenClaim := { program := "ytafdakamibpjaaa", sum := "3ce710babf7314136ea3fb545b0941013f2e9a5651f2eb628a25cff14e8d421c", func := "loop.example/g01285/laws.FnExactMultiplyPolys", spec := "fnExactMultiplyPolys", unfollowed := true, recurses := true, plainKeys := false, apart := false }
def FnExactMultiplyPolysSaid : Prop := fnExactMultiplyPolysRow.holds Try.pinned (OpenSpec.ofChange fnExactMultiplyPolysSpec)

/-- ITS FALSE NEIGHBOUR: 'it returns false'. Refute it at one input. -/
def fnExactMultiplyPolysWrong : ChangeSpec := { name := "fnExactMultiplyPolys", fn := fun _ => fun
  | [d1, d2] => { results := [.lit (.bool false)], args := [d1, d2] }
  | _ => none }
def FnExactMultiplyPolysWrongFalsely : Prop := fnExactMultiplyPolysRow.holds Try.pinned (OpenSpec.ofChange fnExactMultiplyPolysWrong)

/-- 'laws.FnExactPowerPoly': WHATEVER THE INPUT: true; the input reads as it did. -/
def fnExactPowerPolySpec : ChangeSpec := { name := "fnExactPowerPoly", fn := fun _ => fun
  | [d1, d2] => { results := [.lit (.bool true)], args := [d1, d2] }
  | _ => none }
def fnExactPowerPolyRow : OpenClaim := { program := "ytafdakamibpjaaa", sum := "3ce710babf7314136ea3fb545b0941013f2e9a5651f2eb628a25cff14e8d421c", func := "loop.example/g01285/laws.FnExactPowerPoly", spec := "fnExactPowerPoly", unfollowed := true, recurses := true, plainKeys := false, apart := false }
def FnExactPowerPolySaid : Prop := fnExactPowerPolyRow.holds Try.pinned (OpenSpec.ofChange fnExactPowerPolySpec)

/-- ITS FALSE NEIGHBOUR: 'it returns false'. Refute it at one input. -/
def fnExactPowerPolyWrong : ChangeSpec := { name := "fnExactPowerPoly", fn := fun _ => fun
  | [d1, d2] => { results := [.lit (.bool false)], args := [d1, d2] }
  | _ => none }
def FnExactPowerPolyWrongFalsely : Prop := fnExactPowerPolyRow.holds Try.pinned (OpenSpec.ofChange fnExactPowerPolyWrong)

/-- 'laws.FnExactDerivativeOf': WHATEVER THE INPUT: true; the input reads as it did. -/
def fnExactDerivativeOfSpec : ChangeSpec := { name := "fnExactDerivativeOf", fn := fun _ => fun
  | [d1, d2] => { results := [.lit (.bool true)], args := [d1, d2] }
  | _ => none }
def fnExactDerivativeOfRow : OpenClaim := { program := "ytafdakamibpjaaa", sum := "3ce710babf7314136ea3fb545b0941013f2e9a5651f2eb628a25cff14e8d421c", func := "loop.example/g01285/laws.FnExactDerivativeOf", spec := "fnExactDerivativeOf", unfollowed := true, recurses := true, plainKeys := false, apart := false }
def FnExactDerivativeOfSaid : Prop := fnExactDerivativeOfRow.holds Try.pinned (OpenSpec.ofChange fnExactDerivativeOfSpec)

/-- ITS FALSE NEIGHBOUR: 'it returns false'. Refute it at one input. -/
def fnExactDerivativeOfWrong : ChangeSpec := { name := "fnExactDerivativeOf", fn := fun _ => fun
  | [d1, d2] => { results := [.lit (.bool false)], args := [d1, d2] }
  | _ => none }
def FnExactDerivativeOfWrongFalsely : Prop := fnExactDerivativeOfRow.holds Try.pinned (OpenSpec.ofChange fnExactDerivativeOfWrong)

/-- 'laws.FnExactMonomialOf': WHATEVER THE INPUT: true; the input reads as it did. -/
def fnExactMonomialOfSpec : ChangeSpec := { name := "fnExactMonomialOf", fn := fun _ => fun
  | [d1, d2, d3, d4] => { results := [.lit (.bool true)], args := [d1, d2, d3, d4] }
  | _ => none }
def fnExactMonomialOfRow : OpenClaim := { program := "ytafdakamibpjaaa", sum := "3ce710babf7314136ea3fb545b0941013f2e9a5651f2eb628a25cff14e8d421c", func := "loop.example/g01285/laws.FnExactMonomialOf", spec := "fnExactMonomialOf", unfollowed := true, recurses := true, plainKeys := false, apart := false }
def FnExactMonomialOfSaid : Prop := fnExactMonomialOfRow.holds Try.pinned (OpenSpec.ofChange fnExactMonomialOfSpec)

/-- ITS FALSE NEIGHBOUR: 'it returns false'. Refute it at one input. -/
def fnExactMonomialOfWrong : ChangeSpec := { name := "fnExactMonomialOf", fn := fun _ => fun
  | [d1, d2, d3, d4] => { results := [.lit (.bool false)], args := [d1, d2, d3, d4] }
  | _ => none }
def FnExactMonomialOfWrongFalsely : Prop := fnExactMonomialOfRow.holds Try.pinned (OpenSpec.ofChange fnExactMonomialOfWrong)

/- THE SECOND FORM. 'bulk': how many values and letters a reading holds, each counted each time it is reached (what is shared counts as often as it is met; a slice's spare places count too). A statement '..UptoSaid' is the law's where the arguments, and the package variables that the reading takes, are together of bulk at most 1048576: NARROWER than '..Said'. Prove '..Said' where nothing that the law and all that it calls make is longer than what came in: it says more and counts as full. Else prove '..UptoSaid'. A law counts once. -/
mutual
def uptoBulk {H : Type} : DataW H → Nat
  | .lit (.string bytes) => bytes.length + 1
  | .lit _ => 1
  | .nil => 1
  | .ptr d => uptoBulk d + 1
  | .slice elems spare => uptoBulkAll elems + uptoBulkAll spare + 1
  | .agg parts => uptoBulkAll parts + 1
  | .iface _ d => uptoBulk d + 1
  | .map entries => uptoBulkEntries entries + 1
  | .held _ => 1
def uptoBulkAll {H : Type} : List (DataW H) → Nat
  | [] => 0
  | d :: r => uptoBulk d + uptoBulkAll r
def uptoBulkEntries {H : Type} : List (Lit × DataW H) → Nat
  | [] => 0
  | x :: r => uptoBulkEntry x + uptoBulkEntries r
def uptoBulkEntry {H : Type} : Lit × DataW H → Nat
  | (.string bytes, d) => bytes.length + uptoBulk d + 1
  | (_, d) => uptoBulk d + 1
 end
def uptoSmall : (H : Type) → List (DataW H) → Bool := fun _ ds => decide (uptoBulkAll ds ≤ 1048576)
def OpenSpec.upto (s : _root_.Go.ChangeSpec) : _root_.Go.OpenSpec := { _root_.Go.OpenSpec.ofChange s with cond := some uptoSmall }

/-- 'laws.FnExactIsMatrix', WHERE WHAT IT READS IS OF BULK AT MOST 1048576: true; the input reads as it did. -/
def fnExactIsMatrixUptoRow : OpenClaim := { program := "ytafdakamibpjaaa", sum := "3ce710babf7314136ea3fb545b0941013f2e9a5651f2eb628a25cff14e8d421c", func := "loop.example/g01285/laws.FnExactIsMatrix", spec := "fnExactIsMatrix", unfollowed := true, recurses := true, plainKeys := false, apart := false, narrowed := true }
def FnExactIsMatrixUptoSaid : Prop := fnExactIsMatrixUptoRow.holds Try.pinned (OpenSpec.upto fnExactIsMatrixSpec)

/-- 'laws.FnExactDeterminantOf', WHERE WHAT IT READS IS OF BULK AT MOST 1048576: true; the input reads as it did. -/
def fnExactDeterminantOfUptoRow : OpenClaim := { program := "ytafdakamibpjaaa", sum := "3ce710babf7314136ea3fb545b0941013f2e9a5651f2eb628a25cff14e8d421c", func := "loop.example/g01285/laws.FnExactDeterminantOf", spec := "fnExactDeterminantOf", unfollowed := true, recurses := true, plainKeys := false, apart := false, narrowed := true }
def FnExactDeterminantOfUptoSaid : Prop := fnExactDeterminantOfUptoRow.holds Try.pinned (OpenSpec.upto fnExactDeterminantOfSpec)

/-- 'laws.FnExactMultiplyMatrices', WHERE WHAT IT READS IS OF BULK AT MOST 1048576: true; the input reads as it did. -/
def fnExactMultiplyMatricesUptoRow : OpenClaim := { program := "ytafdakamibpjaaa", sum := "3ce710babf7314136ea3fb545b0941013f2e9a5651f2eb628a25cff14e8d421c", func := "loop.example/g01285/laws.FnExactMultiplyMatrices", spec := "fnExactMultiplyMatrices", unfollowed := true, recurses := true, plainKeys := false, apart := false, narrowed := true }
def FnExactMultiplyMatricesUptoSaid : Prop := fnExactMultiplyMatricesUptoRow.holds Try.pinned (OpenSpec.upto fnExactMultiplyMatricesSpec)

/-- 'laws.FnExactOrderOfMatrix', WHERE WHAT IT READS IS OF BULK AT MOST 1048576: true; the input reads as it did. -/
def fnExactOrderOfMatrixUptoRow : OpenClaim := { program := "ytafdakamibpjaaa", sum := "3ce710babf7314136ea3fb545b0941013f2e9a5651f2eb628a25cff14e8d421c", func := "loop.example/g01285/laws.FnExactOrderOfMatrix", spec := "fnExactOrderOfMatrix", unfollowed := true, recurses := true, plainKeys := false, apart := false, narrowed := true }
def FnExactOrderOfMatrixUptoSaid : Prop := fnExactOrderOfMatrixUptoRow.holds Try.pinned (OpenSpec.upto fnExactOrderOfMatrixSpec)

/-- 'laws.FnExactIsGroup', WHERE WHAT IT READS IS OF BULK AT MOST 1048576: true; the input reads as it did. -/
def fnExactIsGroupUptoRow : OpenClaim := { program := "ytafdakamibpjaaa", sum := "3ce710babf7314136ea3fb545b0941013f2e9a5651f2eb628a25cff14e8d421c", func := "loop.example/g01285/laws.FnExactIsGroup", spec := "fnExactIsGroup", inPlace := ["internal/bytealg.Compare"], unfollowed := true, recurses := true, plainKeys := false, apart := false, narrowed := true }
def FnExactIsGroupUptoSaid : Prop := fnExactIsGroupUptoRow.holds Try.pinned (OpenSpec.upto fnExactIsGroupSpec)

/-- 'laws.FnExactIsModular', WHERE WHAT IT READS IS OF BULK AT MOST 1048576: true; the input reads as it did. -/
def fnExactIsModularUptoRow : OpenClaim := { program := "ytafdakamibpjaaa", sum := "3ce710babf7314136ea3fb545b0941013f2e9a5651f2eb628a25cff14e8d421c", func := "loop.example/g01285/laws.FnExactIsModular", spec := "fnExactIsModular", inPlace := ["internal/bytealg.Compare"], unfollowed := true, recurses := true, plainKeys := false, apart := false, narrowed := true }
def FnExactIsModularUptoSaid : Prop := fnExactIsModularUptoRow.holds Try.pinned (OpenSpec.upto fnExactIsModularSpec)

/-- 'laws.FnExactCentreOf', WHERE WHAT IT READS IS OF BULK AT MOST 1048576: true; the input reads as it did. -/
def fnExactCentreOfUptoRow : OpenClaim := { program := "ytafdakamibpjaaa", sum := "3ce710babf7314136ea3fb545b0941013f2e9a5651f2eb628a25cff14e8d421c", func := "loop.example/g01285/laws.FnExactCentreOf", spec := "fnExactCentreOf", inPlace := ["internal/bytealg.Compare"], unfollowed := true, recurses := true, plainKeys := false, apart := false, narrowed := true }
def FnExactCentreOfUptoSaid : Prop := fnExactCentreOfUptoRow.holds Try.pinned (OpenSpec.upto fnExactCentreOfSpec)

/-- 'laws.FnExactInverseMatrix', WHERE WHAT IT READS IS OF BULK AT MOST 1048576: true; the input reads as it did. -/
def fnExactInverseMatrixUptoRow : OpenClaim := { program := "ytafdakamibpjaaa", sum := "3ce710babf7314136ea3fb545b0941013f2e9a5651f2eb628a25cff14e8d421c", func := "loop.example/g01285/laws.FnExactInverseMatrix", spec := "fnExactInverseMatrix", unfollowed := true, recurses := true, plainKeys := false, apart := false, narrowed := true }
def FnExactInverseMatrixUptoSaid : Prop := fnExactInverseMatrixUptoRow.holds Try.pinned (OpenSpec.upto fnExactInverseMatrixSpec)

/-- 'laws.FnExactReduceRows', WHERE WHAT IT READS IS OF BULK AT MOST 1048576: true; the input reads as it did. -/
def fnExactReduceRowsUptoRow : OpenClaim := { program := "ytafdakamibpjaaa", sum := "3ce710babf7314136ea3fb545b0941013f2e9a5651f2eb628a25cff14e8d421c", func := "loop.example/g01285/laws.FnExactReduceRows", spec := "fnExactReduceRows", unfollowed := true, recurses := true, plainKeys := false, apart := false, narrowed := true }
def FnExactReduceRowsUptoSaid : Prop := fnExactReduceRowsUptoRow.holds Try.pinned (OpenSpec.upto fnExactReduceRowsSpec)

/-- 'laws.FnExactAddPolys', WHERE WHAT IT READS IS OF BULK AT MOST 1048576: true; the input reads as it did. -/
def fnExactAddPolysUptoRow : OpenClaim := { program := "ytafdakamibpjaaa", sum := "3ce710babf7314136ea3fb545b0941013f2e9a5651f2eb628a25cff14e8d421c", func := "loop.example/g01285/laws.FnExactAddPolys", spec := "fnExactAddPolys", unfollowed := true, recurses := true, plainKeys := false, apart := false, narrowed := true }
def FnExactAddPolysUptoSaid : Prop := fnExactAddPolysUptoRow.holds Try.pinned (OpenSpec.upto fnExactAddPolysSpec)

/-- 'laws.FnExactMultiplyPolys', WHERE WHAT IT READS IS OF BULK AT MOST 1048576: true; the input reads as it did. -/
def fnExactMultiplyPolysUptoRow : OpenClaim := { program := "ytafdakamibpjaaa", sum := "3ce710babf7314136ea3fb545b0941013f2e9a5651f2eb628a25cff14e8d421c", func := "loop.example/g01285/laws.FnExactMultiplyPolys", spec := "fnExactMultiplyPolys", unfollowed := true, recurses := true, plainKeys := false, apart := false, narrowed := true }
def FnExactMultiplyPolysUptoSaid : Prop := fnExactMultiplyPolysUptoRow.holds Try.pinned (OpenSpec.upto fnExactMultiplyPolysSpec)

/-- 'laws.FnExactPowerPoly', WHERE WHAT IT READS IS OF BULK AT MOST 1048576: true; the input reads as it did. -/
def fnExactPowerPolyUptoRow : OpenClaim := { program := "ytafdakamibpjaaa", sum := "3ce710babf7314136ea3fb545b0941013f2e9a5651f2eb628a25cff14e8d421c", func := "loop.example/g01285/laws.FnExactPowerPoly", spec := "fnExactPowerPoly", unfollowed := true, recurses := true, plainKeys := false, apart := false, narrowed := true }
def FnExactPowerPolyUptoSaid : Prop := fnExactPowerPolyUptoRow.holds Try.pinned (OpenSpec.upto fnExactPowerPolySpec)

/-- 'laws.FnExactDerivativeOf', WHERE WHAT IT READS IS OF BULK AT MOST 1048576: true; the input reads as it did. -/
def fnExactDerivativeOfUptoRow : OpenClaim := { program := "ytafdakamibpjaaa", sum := "3ce710babf7314136ea3fb545b0941013f2e9a5651f2eb628a25cff14e8d421c", func := "loop.example/g01285/laws.FnExactDerivativeOf", spec := "fnExactDerivativeOf", unfollowed := true, recurses := true, plainKeys := false, apart := false, narrowed := true }
def FnExactDerivativeOfUptoSaid : Prop := fnExactDerivativeOfUptoRow.holds Try.pinned (OpenSpec.upto fnExactDerivativeOfSpec)

/-- 'laws.FnExactMonomialOf', WHERE WHAT IT READS IS OF BULK AT MOST 1048576: true; the input reads as it did. -/
def fnExactMonomialOfUptoRow : OpenClaim := { program := "ytafdakamibpjaaa", sum := "3ce710babf7314136ea3fb545b0941013f2e9a5651f2eb628a25cff14e8d421c", func := "loop.example/g01285/laws.FnExactMonomialOf", spec := "fnExactMonomialOf", unfollowed := true, recurses := true, plainKeys := false, apart := false, narrowed := true }
def FnExactMonomialOfUptoSaid : Prop := fnExactMonomialOfUptoRow.holds Try.pinned (OpenSpec.upto fnExactMonomialOfSpec)

end Rows
end Go.Proofs.Ytafdakamibpjaaa
