/-
  No cell of these rows narrows 'for every input' (looked for: loops, veiled, ifaces, maps, wideKeys, modest, calm, conditions, laid).
  DERIVED. THE GIVEN ROWS OF THIS SEAT. 30 by the template 'for every input the law returns true; each argument reads behind the call as it read before'; 0 by the template 'total and deterministic' (their statements: YtgieofidogkbaaaTotals.lean).
  GIVEN WITH THE SEED: the statements are not yours to turn. If you find one false, say at which input.
  Laid BY PROGRAM, IN A SANDBOX (cutbox-rows.mjs): the forced cells as the released guide's own fill.sh prints them over the translation af4ff0b7f88de127… (all of the seat's roots in one cut). By AI agents, Wed Nov 11 2026. No macro, syntax, notation, axiom, sorry.
-/
import Derived.Test.YtgieofidogkbaaaChecked
import GoSem.Claim
import GoSem.ClaimJoined
import GoSem.ClaimMapViews
import Derived.JoinedTies
import Derived.KernelRfl
namespace Go.Proofs.Ytgieofidogkbaaa
/- THE CELL 'sum', in the pinned program and in every row, IS THE sha256 OF THE DUMP (.gsa) THAT YtgieofidogkbaaaProg.lean LOADS. Nothing in Lean hashes anything: it is a label: what it is worth is what the hold of that sum in a sandbox is worth. -/
noncomputable def Try.pinned : Pinned := { name := "ytgieofidogkbaaa", sum := "af4ff0b7f88de127bc730f830cab621f042d3d88bfa83ada404fcea986c6d685", checked := Try.checked }
namespace Rows
def none {H : Type} : Left H := { results := [], args := [] }

/-- 'laws.FnExactMonomialsOf': WHATEVER THE INPUT: true; the input reads as it did. -/
def fnExactMonomialsOfSpec : ChangeSpec := { name := "fnExactMonomialsOf", fn := fun _ => fun
  | [d1, d2] => { results := [.lit (.bool true)], args := [d1, d2] }
  | _ => none }
def fnExactMonomialsOfRow : OpenClaim := { program := "ytgieofidogkbaaa", sum := "af4ff0b7f88de127bc730f830cab621f042d3d88bfa83ada404fcea986c6d685", func := "loop.example/g01285/laws.FnExactMonomialsOf", spec := "fnExactMonomialsOf", plainKeys := false, apart := false }
def FnExactMonomialsOfSaid : Prop := fnExactMonomialsOfRow.holds Try.pinned (OpenSpec.ofChange fnExactMonomialsOfSpec)

/-- ITS FALSE NEIGHBOUR: 'it returns false'. Refute it at one input. -/
def fnExactMonomialsOfWrong : ChangeSpec := { name := "fnExactMonomialsOf", fn := fun _ => fun
  | [d1, d2] => { results := [.lit (.bool false)], args := [d1, d2] }
  | _ => none }
def FnExactMonomialsOfWrongFalsely : Prop := fnExactMonomialsOfRow.holds Try.pinned (OpenSpec.ofChange fnExactMonomialsOfWrong)

/-- 'laws.FnExactIsMatrix': WHATEVER THE INPUT: true; the input reads as it did. -/
def fnExactIsMatrixSpec : ChangeSpec := { name := "fnExactIsMatrix", fn := fun _ => fun
  | [d1, d2, d3] => { results := [.lit (.bool true)], args := [d1, d2, d3] }
  | _ => none }
def fnExactIsMatrixRow : OpenClaim := { program := "ytgieofidogkbaaa", sum := "af4ff0b7f88de127bc730f830cab621f042d3d88bfa83ada404fcea986c6d685", func := "loop.example/g01285/laws.FnExactIsMatrix", spec := "fnExactIsMatrix", unfollowed := true, recurses := true, plainKeys := false, apart := false }
def FnExactIsMatrixSaid : Prop := fnExactIsMatrixRow.holds Try.pinned (OpenSpec.ofChange fnExactIsMatrixSpec)

/-- ITS FALSE NEIGHBOUR: 'it returns false'. Refute it at one input. -/
def fnExactIsMatrixWrong : ChangeSpec := { name := "fnExactIsMatrix", fn := fun _ => fun
  | [d1, d2, d3] => { results := [.lit (.bool false)], args := [d1, d2, d3] }
  | _ => none }
def FnExactIsMatrixWrongFalsely : Prop := fnExactIsMatrixRow.holds Try.pinned (OpenSpec.ofChange fnExactIsMatrixWrong)

/-- 'laws.FnExactIsPoly': WHATEVER THE INPUT: true; the input reads as it did. -/
def fnExactIsPolySpec : ChangeSpec := { name := "fnExactIsPoly", fn := fun _ => fun
  | [d] => { results := [.lit (.bool true)], args := [d] }
  | _ => none }
def fnExactIsPolyRow : OpenClaim := { program := "ytgieofidogkbaaa", sum := "af4ff0b7f88de127bc730f830cab621f042d3d88bfa83ada404fcea986c6d685", func := "loop.example/g01285/laws.FnExactIsPoly", spec := "fnExactIsPoly", plainKeys := false, apart := false }
def FnExactIsPolySaid : Prop := fnExactIsPolyRow.holds Try.pinned (OpenSpec.ofChange fnExactIsPolySpec)

/-- ITS FALSE NEIGHBOUR: 'it returns false'. Refute it at one input. -/
def fnExactIsPolyWrong : ChangeSpec := { name := "fnExactIsPoly", fn := fun _ => fun
  | [d] => { results := [.lit (.bool false)], args := [d] }
  | _ => none }
def FnExactIsPolyWrongFalsely : Prop := fnExactIsPolyRow.holds Try.pinned (OpenSpec.ofChange fnExactIsPolyWrong)

/-- 'laws.FnExactDegreeOf': WHATEVER THE INPUT: true; the input reads as it did. -/
def fnExactDegreeOfSpec : ChangeSpec := { name := "fnExactDegreeOf", fn := fun _ => fun
  | [d] => { results := [.lit (.bool true)], args := [d] }
  | _ => none }
def fnExactDegreeOfRow : OpenClaim := { program := "ytgieofidogkbaaa", sum := "af4ff0b7f88de127bc730f830cab621f042d3d88bfa83ada404fcea986c6d685", func := "loop.example/g01285/laws.FnExactDegreeOf", spec := "fnExactDegreeOf", plainKeys := false, apart := false }
def FnExactDegreeOfSaid : Prop := fnExactDegreeOfRow.holds Try.pinned (OpenSpec.ofChange fnExactDegreeOfSpec)

/-- ITS FALSE NEIGHBOUR: 'it returns false'. Refute it at one input. -/
def fnExactDegreeOfWrong : ChangeSpec := { name := "fnExactDegreeOf", fn := fun _ => fun
  | [d] => { results := [.lit (.bool false)], args := [d] }
  | _ => none }
def FnExactDegreeOfWrongFalsely : Prop := fnExactDegreeOfRow.holds Try.pinned (OpenSpec.ofChange fnExactDegreeOfWrong)

/-- 'laws.FnExactIsHomogeneous': WHATEVER THE INPUT: true; the input reads as it did. -/
def fnExactIsHomogeneousSpec : ChangeSpec := { name := "fnExactIsHomogeneous", fn := fun _ => fun
  | [d] => { results := [.lit (.bool true)], args := [d] }
  | _ => none }
def fnExactIsHomogeneousRow : OpenClaim := { program := "ytgieofidogkbaaa", sum := "af4ff0b7f88de127bc730f830cab621f042d3d88bfa83ada404fcea986c6d685", func := "loop.example/g01285/laws.FnExactIsHomogeneous", spec := "fnExactIsHomogeneous", plainKeys := false, apart := false }
def FnExactIsHomogeneousSaid : Prop := fnExactIsHomogeneousRow.holds Try.pinned (OpenSpec.ofChange fnExactIsHomogeneousSpec)

/-- ITS FALSE NEIGHBOUR: 'it returns false'. Refute it at one input. -/
def fnExactIsHomogeneousWrong : ChangeSpec := { name := "fnExactIsHomogeneous", fn := fun _ => fun
  | [d] => { results := [.lit (.bool false)], args := [d] }
  | _ => none }
def FnExactIsHomogeneousWrongFalsely : Prop := fnExactIsHomogeneousRow.holds Try.pinned (OpenSpec.ofChange fnExactIsHomogeneousWrong)

/-- 'laws.FnExactDeterminantOf': WHATEVER THE INPUT: true; the input reads as it did. -/
def fnExactDeterminantOfSpec : ChangeSpec := { name := "fnExactDeterminantOf", fn := fun _ => fun
  | [d1, d2, d3] => { results := [.lit (.bool true)], args := [d1, d2, d3] }
  | _ => none }
def fnExactDeterminantOfRow : OpenClaim := { program := "ytgieofidogkbaaa", sum := "af4ff0b7f88de127bc730f830cab621f042d3d88bfa83ada404fcea986c6d685", func := "loop.example/g01285/laws.FnExactDeterminantOf", spec := "fnExactDeterminantOf", unfollowed := true, recurses := true, plainKeys := false, apart := false }
def FnExactDeterminantOfSaid : Prop := fnExactDeterminantOfRow.holds Try.pinned (OpenSpec.ofChange fnExactDeterminantOfSpec)

/-- ITS FALSE NEIGHBOUR: 'it returns false'. Refute it at one input. -/
def fnExactDeterminantOfWrong : ChangeSpec := { name := "fnExactDeterminantOf", fn := fun _ => fun
  | [d1, d2, d3] => { results := [.lit (.bool false)], args := [d1, d2, d3] }
  | _ => none }
def FnExactDeterminantOfWrongFalsely : Prop := fnExactDeterminantOfRow.holds Try.pinned (OpenSpec.ofChange fnExactDeterminantOfWrong)

/-- 'laws.FnExactMultiplyMatrices': WHATEVER THE INPUT: true; the input reads as it did. -/
def fnExactMultiplyMatricesSpec : ChangeSpec := { name := "fnExactMultiplyMatrices", fn := fun _ => fun
  | [d1, d2, d3, d4] => { results := [.lit (.bool true)], args := [d1, d2, d3, d4] }
  | _ => none }
def fnExactMultiplyMatricesRow : OpenClaim := { program := "ytgieofidogkbaaa", sum := "af4ff0b7f88de127bc730f830cab621f042d3d88bfa83ada404fcea986c6d685", func := "loop.example/g01285/laws.FnExactMultiplyMatrices", spec := "fnExactMultiplyMatrices", unfollowed := true, recurses := true, plainKeys := false, apart := false }
def FnExactMultiplyMatricesSaid : Prop := fnExactMultiplyMatricesRow.holds Try.pinned (OpenSpec.ofChange fnExactMultiplyMatricesSpec)

/-- ITS FALSE NEIGHBOUR: 'it returns false'. Refute it at one input. -/
def fnExactMultiplyMatricesWrong : ChangeSpec := { name := "fnExactMultiplyMatrices", fn := fun _ => fun
  | [d1, d2, d3, d4] => { results := [.lit (.bool false)], args := [d1, d2, d3, d4] }
  | _ => none }
def FnExactMultiplyMatricesWrongFalsely : Prop := fnExactMultiplyMatricesRow.holds Try.pinned (OpenSpec.ofChange fnExactMultiplyMatricesWrong)

/-- 'laws.FnExactPartOfDegree': WHATEVER THE INPUT: true; the input reads as it did. -/
def fnExactPartOfDegreeSpec : ChangeSpec := { name := "fnExactPartOfDegree", fn := fun _ => fun
  | [d1, d2] => { results := [.lit (.bool true)], args := [d1, d2] }
  | _ => none }
def fnExactPartOfDegreeRow : OpenClaim := { program := "ytgieofidogkbaaa", sum := "af4ff0b7f88de127bc730f830cab621f042d3d88bfa83ada404fcea986c6d685", func := "loop.example/g01285/laws.FnExactPartOfDegree", spec := "fnExactPartOfDegree", plainKeys := false, apart := false }
def FnExactPartOfDegreeSaid : Prop := fnExactPartOfDegreeRow.holds Try.pinned (OpenSpec.ofChange fnExactPartOfDegreeSpec)

/-- ITS FALSE NEIGHBOUR: 'it returns false'. Refute it at one input. -/
def fnExactPartOfDegreeWrong : ChangeSpec := { name := "fnExactPartOfDegree", fn := fun _ => fun
  | [d1, d2] => { results := [.lit (.bool false)], args := [d1, d2] }
  | _ => none }
def FnExactPartOfDegreeWrongFalsely : Prop := fnExactPartOfDegreeRow.holds Try.pinned (OpenSpec.ofChange fnExactPartOfDegreeWrong)

/-- 'laws.FnExactValueAt': WHATEVER THE INPUT: true; the input reads as it did. -/
def fnExactValueAtSpec : ChangeSpec := { name := "fnExactValueAt", fn := fun _ => fun
  | [d1, d2] => { results := [.lit (.bool true)], args := [d1, d2] }
  | _ => none }
def fnExactValueAtRow : OpenClaim := { program := "ytgieofidogkbaaa", sum := "af4ff0b7f88de127bc730f830cab621f042d3d88bfa83ada404fcea986c6d685", func := "loop.example/g01285/laws.FnExactValueAt", spec := "fnExactValueAt", plainKeys := false, apart := false }
def FnExactValueAtSaid : Prop := fnExactValueAtRow.holds Try.pinned (OpenSpec.ofChange fnExactValueAtSpec)

/-- ITS FALSE NEIGHBOUR: 'it returns false'. Refute it at one input. -/
def fnExactValueAtWrong : ChangeSpec := { name := "fnExactValueAt", fn := fun _ => fun
  | [d1, d2] => { results := [.lit (.bool false)], args := [d1, d2] }
  | _ => none }
def FnExactValueAtWrongFalsely : Prop := fnExactValueAtRow.holds Try.pinned (OpenSpec.ofChange fnExactValueAtWrong)

/-- 'laws.FnExactOrderOfMatrix': WHATEVER THE INPUT: true; the input reads as it did. -/
def fnExactOrderOfMatrixSpec : ChangeSpec := { name := "fnExactOrderOfMatrix", fn := fun _ => fun
  | [d1, d2, d3] => { results := [.lit (.bool true)], args := [d1, d2, d3] }
  | _ => none }
def fnExactOrderOfMatrixRow : OpenClaim := { program := "ytgieofidogkbaaa", sum := "af4ff0b7f88de127bc730f830cab621f042d3d88bfa83ada404fcea986c6d685", func := "loop.example/g01285/laws.FnExactOrderOfMatrix", spec := "fnExactOrderOfMatrix", unfollowed := true, recurses := true, plainKeys := false, apart := false }
def FnExactOrderOfMatrixSaid : Prop := fnExactOrderOfMatrixRow.holds Try.pinned (OpenSpec.ofChange fnExactOrderOfMatrixSpec)

/-- ITS FALSE NEIGHBOUR: 'it returns false'. Refute it at one input. -/
def fnExactOrderOfMatrixWrong : ChangeSpec := { name := "fnExactOrderOfMatrix", fn := fun _ => fun
  | [d1, d2, d3] => { results := [.lit (.bool false)], args := [d1, d2, d3] }
  | _ => none }
def FnExactOrderOfMatrixWrongFalsely : Prop := fnExactOrderOfMatrixRow.holds Try.pinned (OpenSpec.ofChange fnExactOrderOfMatrixWrong)

/-- 'laws.FnExactCoefficientAt': WHATEVER THE INPUT: true; the input reads as it did. -/
def fnExactCoefficientAtSpec : ChangeSpec := { name := "fnExactCoefficientAt", fn := fun _ => fun
  | [d1, d2] => { results := [.lit (.bool true)], args := [d1, d2] }
  | _ => none }
def fnExactCoefficientAtRow : OpenClaim := { program := "ytgieofidogkbaaa", sum := "af4ff0b7f88de127bc730f830cab621f042d3d88bfa83ada404fcea986c6d685", func := "loop.example/g01285/laws.FnExactCoefficientAt", spec := "fnExactCoefficientAt", plainKeys := false, apart := false }
def FnExactCoefficientAtSaid : Prop := fnExactCoefficientAtRow.holds Try.pinned (OpenSpec.ofChange fnExactCoefficientAtSpec)

/-- ITS FALSE NEIGHBOUR: 'it returns false'. Refute it at one input. -/
def fnExactCoefficientAtWrong : ChangeSpec := { name := "fnExactCoefficientAt", fn := fun _ => fun
  | [d1, d2] => { results := [.lit (.bool false)], args := [d1, d2] }
  | _ => none }
def FnExactCoefficientAtWrongFalsely : Prop := fnExactCoefficientAtRow.holds Try.pinned (OpenSpec.ofChange fnExactCoefficientAtWrong)

/-- 'laws.FnExactIsGroup': WHATEVER THE INPUT: true; the input reads as it did. -/
def fnExactIsGroupSpec : ChangeSpec := { name := "fnExactIsGroup", fn := fun _ => fun
  | [d] => { results := [.lit (.bool true)], args := [d] }
  | _ => none }
def fnExactIsGroupRow : OpenClaim := { program := "ytgieofidogkbaaa", sum := "af4ff0b7f88de127bc730f830cab621f042d3d88bfa83ada404fcea986c6d685", func := "loop.example/g01285/laws.FnExactIsGroup", spec := "fnExactIsGroup", inPlace := ["internal/bytealg.Compare"], unfollowed := true, recurses := true, plainKeys := false, apart := false }
def FnExactIsGroupSaid : Prop := fnExactIsGroupRow.holds Try.pinned (OpenSpec.ofChange fnExactIsGroupSpec)

/-- ITS FALSE NEIGHBOUR: 'it returns false'. Refute it at one input. -/
def fnExactIsGroupWrong : ChangeSpec := { name := "fnExactIsGroup", fn := fun _ => fun
  | [d] => { results := [.lit (.bool false)], args := [d] }
  | _ => none }
def FnExactIsGroupWrongFalsely : Prop := fnExactIsGroupRow.holds Try.pinned (OpenSpec.ofChange fnExactIsGroupWrong)

/-- 'laws.FnExactIsModular': WHATEVER THE INPUT: true; the input reads as it did. -/
def fnExactIsModularSpec : ChangeSpec := { name := "fnExactIsModular", fn := fun _ => fun
  | [d] => { results := [.lit (.bool true)], args := [d] }
  | _ => none }
def fnExactIsModularRow : OpenClaim := { program := "ytgieofidogkbaaa", sum := "af4ff0b7f88de127bc730f830cab621f042d3d88bfa83ada404fcea986c6d685", func := "loop.example/g01285/laws.FnExactIsModular", spec := "fnExactIsModular", inPlace := ["internal/bytealg.Compare"], unfollowed := true, recurses := true, plainKeys := false, apart := false }
def FnExactIsModularSaid : Prop := fnExactIsModularRow.holds Try.pinned (OpenSpec.ofChange fnExactIsModularSpec)

/-- ITS FALSE NEIGHBOUR: 'it returns false'. Refute it at one input. -/
def fnExactIsModularWrong : ChangeSpec := { name := "fnExactIsModular", fn := fun _ => fun
  | [d] => { results := [.lit (.bool false)], args := [d] }
  | _ => none }
def FnExactIsModularWrongFalsely : Prop := fnExactIsModularRow.holds Try.pinned (OpenSpec.ofChange fnExactIsModularWrong)

/-- 'laws.FnExactCentreOf': WHATEVER THE INPUT: true; the input reads as it did. -/
def fnExactCentreOfSpec : ChangeSpec := { name := "fnExactCentreOf", fn := fun _ => fun
  | [d] => { results := [.lit (.bool true)], args := [d] }
  | _ => none }
def fnExactCentreOfRow : OpenClaim := { program := "ytgieofidogkbaaa", sum := "af4ff0b7f88de127bc730f830cab621f042d3d88bfa83ada404fcea986c6d685", func := "loop.example/g01285/laws.FnExactCentreOf", spec := "fnExactCentreOf", inPlace := ["internal/bytealg.Compare"], unfollowed := true, recurses := true, plainKeys := false, apart := false }
def FnExactCentreOfSaid : Prop := fnExactCentreOfRow.holds Try.pinned (OpenSpec.ofChange fnExactCentreOfSpec)

/-- ITS FALSE NEIGHBOUR: 'it returns false'. Refute it at one input. -/
def fnExactCentreOfWrong : ChangeSpec := { name := "fnExactCentreOf", fn := fun _ => fun
  | [d] => { results := [.lit (.bool false)], args := [d] }
  | _ => none }
def FnExactCentreOfWrongFalsely : Prop := fnExactCentreOfRow.holds Try.pinned (OpenSpec.ofChange fnExactCentreOfWrong)

/-- 'laws.FnExactStabiliserOf': WHATEVER THE INPUT: true; the input reads as it did. -/
def fnExactStabiliserOfSpec : ChangeSpec := { name := "fnExactStabiliserOf", fn := fun _ => fun
  | [d1, d2] => { results := [.lit (.bool true)], args := [d1, d2] }
  | _ => none }
def fnExactStabiliserOfRow : OpenClaim := { program := "ytgieofidogkbaaa", sum := "af4ff0b7f88de127bc730f830cab621f042d3d88bfa83ada404fcea986c6d685", func := "loop.example/g01285/laws.FnExactStabiliserOf", spec := "fnExactStabiliserOf", inPlace := ["internal/bytealg.Compare"], unfollowed := true, recurses := true, plainKeys := false, apart := false }
def FnExactStabiliserOfSaid : Prop := fnExactStabiliserOfRow.holds Try.pinned (OpenSpec.ofChange fnExactStabiliserOfSpec)

/-- ITS FALSE NEIGHBOUR: 'it returns false'. Refute it at one input. -/
def fnExactStabiliserOfWrong : ChangeSpec := { name := "fnExactStabiliserOf", fn := fun _ => fun
  | [d1, d2] => { results := [.lit (.bool false)], args := [d1, d2] }
  | _ => none }
def FnExactStabiliserOfWrongFalsely : Prop := fnExactStabiliserOfRow.holds Try.pinned (OpenSpec.ofChange fnExactStabiliserOfWrong)

/-- 'laws.FnExactMonomialOf': WHATEVER THE INPUT: true; the input reads as it did. -/
def fnExactMonomialOfSpec : ChangeSpec := { name := "fnExactMonomialOf", fn := fun _ => fun
  | [d1, d2, d3, d4] => { results := [.lit (.bool true)], args := [d1, d2, d3, d4] }
  | _ => none }
def fnExactMonomialOfRow : OpenClaim := { program := "ytgieofidogkbaaa", sum := "af4ff0b7f88de127bc730f830cab621f042d3d88bfa83ada404fcea986c6d685", func := "loop.example/g01285/laws.FnExactMonomialOf", spec := "fnExactMonomialOf", unfollowed := true, recurses := true, plainKeys := false, apart := false }
def FnExactMonomialOfSaid : Prop := fnExactMonomialOfRow.holds Try.pinned (OpenSpec.ofChange fnExactMonomialOfSpec)

/-- ITS FALSE NEIGHBOUR: 'it returns false'. Refute it at one input. -/
def fnExactMonomialOfWrong : ChangeSpec := { name := "fnExactMonomialOf", fn := fun _ => fun
  | [d1, d2, d3, d4] => { results := [.lit (.bool false)], args := [d1, d2, d3, d4] }
  | _ => none }
def FnExactMonomialOfWrongFalsely : Prop := fnExactMonomialOfRow.holds Try.pinned (OpenSpec.ofChange fnExactMonomialOfWrong)

/-- 'laws.FnExactReduceRows': WHATEVER THE INPUT: true; the input reads as it did. -/
def fnExactReduceRowsSpec : ChangeSpec := { name := "fnExactReduceRows", fn := fun _ => fun
  | [d1, d2, d3] => { results := [.lit (.bool true)], args := [d1, d2, d3] }
  | _ => none }
def fnExactReduceRowsRow : OpenClaim := { program := "ytgieofidogkbaaa", sum := "af4ff0b7f88de127bc730f830cab621f042d3d88bfa83ada404fcea986c6d685", func := "loop.example/g01285/laws.FnExactReduceRows", spec := "fnExactReduceRows", unfollowed := true, recurses := true, plainKeys := false, apart := false }
def FnExactReduceRowsSaid : Prop := fnExactReduceRowsRow.holds Try.pinned (OpenSpec.ofChange fnExactReduceRowsSpec)

/-- ITS FALSE NEIGHBOUR: 'it returns false'. Refute it at one input. -/
def fnExactReduceRowsWrong : ChangeSpec := { name := "fnExactReduceRows", fn := fun _ => fun
  | [d1, d2, d3] => { results := [.lit (.bool false)], args := [d1, d2, d3] }
  | _ => none }
def FnExactReduceRowsWrongFalsely : Prop := fnExactReduceRowsRow.holds Try.pinned (OpenSpec.ofChange fnExactReduceRowsWrong)

/-- 'laws.FnExactInverseMatrix': WHATEVER THE INPUT: true; the input reads as it did. -/
def fnExactInverseMatrixSpec : ChangeSpec := { name := "fnExactInverseMatrix", fn := fun _ => fun
  | [d1, d2, d3] => { results := [.lit (.bool true)], args := [d1, d2, d3] }
  | _ => none }
def fnExactInverseMatrixRow : OpenClaim := { program := "ytgieofidogkbaaa", sum := "af4ff0b7f88de127bc730f830cab621f042d3d88bfa83ada404fcea986c6d685", func := "loop.example/g01285/laws.FnExactInverseMatrix", spec := "fnExactInverseMatrix", unfollowed := true, recurses := true, plainKeys := false, apart := false }
def FnExactInverseMatrixSaid : Prop := fnExactInverseMatrixRow.holds Try.pinned (OpenSpec.ofChange fnExactInverseMatrixSpec)

/-- ITS FALSE NEIGHBOUR: 'it returns false'. Refute it at one input. -/
def fnExactInverseMatrixWrong : ChangeSpec := { name := "fnExactInverseMatrix", fn := fun _ => fun
  | [d1, d2, d3] => { results := [.lit (.bool false)], args := [d1, d2, d3] }
  | _ => none }
def FnExactInverseMatrixWrongFalsely : Prop := fnExactInverseMatrixRow.holds Try.pinned (OpenSpec.ofChange fnExactInverseMatrixWrong)

/-- 'laws.FnExactDerivativeOf': WHATEVER THE INPUT: true; the input reads as it did. -/
def fnExactDerivativeOfSpec : ChangeSpec := { name := "fnExactDerivativeOf", fn := fun _ => fun
  | [d1, d2] => { results := [.lit (.bool true)], args := [d1, d2] }
  | _ => none }
def fnExactDerivativeOfRow : OpenClaim := { program := "ytgieofidogkbaaa", sum := "af4ff0b7f88de127bc730f830cab621f042d3d88bfa83ada404fcea986c6d685", func := "loop.example/g01285/laws.FnExactDerivativeOf", spec := "fnExactDerivativeOf", unfollowed := true, recurses := true, plainKeys := false, apart := false }
def FnExactDerivativeOfSaid : Prop := fnExactDerivativeOfRow.holds Try.pinned (OpenSpec.ofChange fnExactDerivativeOfSpec)

/-- ITS FALSE NEIGHBOUR: 'it returns false'. Refute it at one input. -/
def fnExactDerivativeOfWrong : ChangeSpec := { name := "fnExactDerivativeOf", fn := fun _ => fun
  | [d1, d2] => { results := [.lit (.bool false)], args := [d1, d2] }
  | _ => none }
def FnExactDerivativeOfWrongFalsely : Prop := fnExactDerivativeOfRow.holds Try.pinned (OpenSpec.ofChange fnExactDerivativeOfWrong)

/-- 'laws.FnExactAddPolys': WHATEVER THE INPUT: true; the input reads as it did. -/
def fnExactAddPolysSpec : ChangeSpec := { name := "fnExactAddPolys", fn := fun _ => fun
  | [d1, d2, d3] => { results := [.lit (.bool true)], args := [d1, d2, d3] }
  | _ => none }
def fnExactAddPolysRow : OpenClaim := { program := "ytgieofidogkbaaa", sum := "af4ff0b7f88de127bc730f830cab621f042d3d88bfa83ada404fcea986c6d685", func := "loop.example/g01285/laws.FnExactAddPolys", spec := "fnExactAddPolys", unfollowed := true, recurses := true, plainKeys := false, apart := false }
def FnExactAddPolysSaid : Prop := fnExactAddPolysRow.holds Try.pinned (OpenSpec.ofChange fnExactAddPolysSpec)

/-- ITS FALSE NEIGHBOUR: 'it returns false'. Refute it at one input. -/
def fnExactAddPolysWrong : ChangeSpec := { name := "fnExactAddPolys", fn := fun _ => fun
  | [d1, d2, d3] => { results := [.lit (.bool false)], args := [d1, d2, d3] }
  | _ => none }
def FnExactAddPolysWrongFalsely : Prop := fnExactAddPolysRow.holds Try.pinned (OpenSpec.ofChange fnExactAddPolysWrong)

/-- 'laws.FnExactMultiplyPolys': WHATEVER THE INPUT: true; the input reads as it did. -/
def fnExactMultiplyPolysSpec : ChangeSpec := { name := "fnExactMultiplyPolys", fn := fun _ => fun
  | [d1, d2] => { results := [.lit (.bool true)], args := [d1, d2] }
  | _ => none }
def fnExactMultiplyPolysRow : OpenClaim := { program := "ytgieofidogkbaaa", sum := "af4ff0b7f88de127bc730f830cab621f042d3d88bfa83ada404fcea986c6d685", func := "loop.example/g01285/laws.FnExactMultiplyPolys", spec := "fnExactMultiplyPolys", unfollowed := true, recurses := true, plainKeys := false, apart := false }
def FnExactMultiplyPolysSaid : Prop := fnExactMultiplyPolysRow.holds Try.pinned (OpenSpec.ofChange fnExactMultiplyPolysSpec)

/-- ITS FALSE NEIGHBOUR: 'it returns false'. Refute it at one input. -/
def fnExactMultiplyPolysWrong : ChangeSpec := { name := "fnExactMultiplyPolys", fn := fun _ => fun
  | [d1, d2] => { results := [.lit (.bool false)], args := [d1, d2] }
  | _ => none }
def FnExactMultiplyPolysWrongFalsely : Prop := fnExactMultiplyPolysRow.holds Try.pinned (OpenSpec.ofChange fnExactMultiplyPolysWrong)

/-- 'laws.FnExactPowerPoly': WHATEVER THE INPUT: true; the input reads as it did. -/
def fnExactPowerPolySpec : ChangeSpec := { name := "fnExactPowerPoly", fn := fun _ => fun
  | [d1, d2] => { results := [.lit (.bool true)], args := [d1, d2] }
  | _ => none }
def fnExactPowerPolyRow : OpenClaim := { program := "ytgieofidogkbaaa", sum := "af4ff0b7f88de127bc730f830cab621f042d3d88bfa83ada404fcea986c6d685", func := "loop.example/g01285/laws.FnExactPowerPoly", spec := "fnExactPowerPoly", unfollowed := true, recurses := true, plainKeys := false, apart := false }
def FnExactPowerPolySaid : Prop := fnExactPowerPolyRow.holds Try.pinned (OpenSpec.ofChange fnExactPowerPolySpec)

/-- ITS FALSE NEIGHBOUR: 'it returns false'. Refute it at one input. -/
def fnExactPowerPolyWrong : ChangeSpec := { name := "fnExactPowerPoly", fn := fun _ => fun
  | [d1, d2] => { results := [.lit (.bool false)], args := [d1, d2] }
  | _ => none }
def FnExactPowerPolyWrongFalsely : Prop := fnExactPowerPolyRow.holds Try.pinned (OpenSpec.ofChange fnExactPowerPolyWrong)

/-- 'laws.FnExactNamedGroup': WHATEVER THE INPUT: true; the input reads as it did. -/
def fnExactNamedGroupSpec : ChangeSpec := { name := "fnExactNamedGroup", fn := fun _ => fun
  | [d1, d2] => { results := [.lit (.bool true)], args := [d1, d2] }
  | _ => none }
def fnExactNamedGroupRow : OpenClaim := { program := "ytgieofidogkbaaa", sum := "af4ff0b7f88de127bc730f830cab621f042d3d88bfa83ada404fcea986c6d685", func := "loop.example/g01285/laws.FnExactNamedGroup", spec := "fnExactNamedGroup", inPlace := ["internal/bytealg.Compare"], unfollowed := true, recurses := true, plainKeys := false, apart := false }
def FnExactNamedGroupSaid : Prop := fnExactNamedGroupRow.holds Try.pinned (OpenSpec.ofChange fnExactNamedGroupSpec)

/-- ITS FALSE NEIGHBOUR: 'it returns false'. Refute it at one input. -/
def fnExactNamedGroupWrong : ChangeSpec := { name := "fnExactNamedGroup", fn := fun _ => fun
  | [d1, d2] => { results := [.lit (.bool false)], args := [d1, d2] }
  | _ => none }
def FnExactNamedGroupWrongFalsely : Prop := fnExactNamedGroupRow.holds Try.pinned (OpenSpec.ofChange fnExactNamedGroupWrong)

/-- 'laws.FnExactGroupOf': WHATEVER THE INPUT: true; the input reads as it did. -/
def fnExactGroupOfSpec : ChangeSpec := { name := "fnExactGroupOf", fn := fun _ => fun
  | [d1, d2, d3] => { results := [.lit (.bool true)], args := [d1, d2, d3] }
  | _ => none }
def fnExactGroupOfRow : OpenClaim := { program := "ytgieofidogkbaaa", sum := "af4ff0b7f88de127bc730f830cab621f042d3d88bfa83ada404fcea986c6d685", func := "loop.example/g01285/laws.FnExactGroupOf", spec := "fnExactGroupOf", inPlace := ["internal/bytealg.Compare"], unfollowed := true, recurses := true, plainKeys := false, apart := false }
def FnExactGroupOfSaid : Prop := fnExactGroupOfRow.holds Try.pinned (OpenSpec.ofChange fnExactGroupOfSpec)

/-- ITS FALSE NEIGHBOUR: 'it returns false'. Refute it at one input. -/
def fnExactGroupOfWrong : ChangeSpec := { name := "fnExactGroupOf", fn := fun _ => fun
  | [d1, d2, d3] => { results := [.lit (.bool false)], args := [d1, d2, d3] }
  | _ => none }
def FnExactGroupOfWrongFalsely : Prop := fnExactGroupOfRow.holds Try.pinned (OpenSpec.ofChange fnExactGroupOfWrong)

/-- 'laws.FnExactSubstitutePoly': WHATEVER THE INPUT: true; the input reads as it did. -/
def fnExactSubstitutePolySpec : ChangeSpec := { name := "fnExactSubstitutePoly", fn := fun _ => fun
  | [d1, d2] => { results := [.lit (.bool true)], args := [d1, d2] }
  | _ => none }
def fnExactSubstitutePolyRow : OpenClaim := { program := "ytgieofidogkbaaa", sum := "af4ff0b7f88de127bc730f830cab621f042d3d88bfa83ada404fcea986c6d685", func := "loop.example/g01285/laws.FnExactSubstitutePoly", spec := "fnExactSubstitutePoly", unfollowed := true, recurses := true, plainKeys := false, apart := false }
def FnExactSubstitutePolySaid : Prop := fnExactSubstitutePolyRow.holds Try.pinned (OpenSpec.ofChange fnExactSubstitutePolySpec)

/-- ITS FALSE NEIGHBOUR: 'it returns false'. Refute it at one input. -/
def fnExactSubstitutePolyWrong : ChangeSpec := { name := "fnExactSubstitutePoly", fn := fun _ => fun
  | [d1, d2] => { results := [.lit (.bool false)], args := [d1, d2] }
  | _ => none }
def FnExactSubstitutePolyWrongFalsely : Prop := fnExactSubstitutePolyRow.holds Try.pinned (OpenSpec.ofChange fnExactSubstitutePolyWrong)

/-- 'laws.FnExactSubgroupOf': WHATEVER THE INPUT: true; the input reads as it did. -/
def fnExactSubgroupOfSpec : ChangeSpec := { name := "fnExactSubgroupOf", fn := fun _ => fun
  | [d1, d2] => { results := [.lit (.bool true)], args := [d1, d2] }
  | _ => none }
def fnExactSubgroupOfRow : OpenClaim := { program := "ytgieofidogkbaaa", sum := "af4ff0b7f88de127bc730f830cab621f042d3d88bfa83ada404fcea986c6d685", func := "loop.example/g01285/laws.FnExactSubgroupOf", spec := "fnExactSubgroupOf", inPlace := ["internal/bytealg.Compare"], unfollowed := true, recurses := true, plainKeys := false, apart := false }
def FnExactSubgroupOfSaid : Prop := fnExactSubgroupOfRow.holds Try.pinned (OpenSpec.ofChange fnExactSubgroupOfSpec)

/-- ITS FALSE NEIGHBOUR: 'it returns false'. Refute it at one input. -/
def fnExactSubgroupOfWrong : ChangeSpec := { name := "fnExactSubgroupOf", fn := fun _ => fun
  | [d1, d2] => { results := [.lit (.bool false)], args := [d1, d2] }
  | _ => none }
def FnExactSubgroupOfWrongFalsely : Prop := fnExactSubgroupOfRow.holds Try.pinned (OpenSpec.ofChange fnExactSubgroupOfWrong)

/-- 'laws.FnExactConjugateGroup': WHATEVER THE INPUT: true; the input reads as it did. -/
def fnExactConjugateGroupSpec : ChangeSpec := { name := "fnExactConjugateGroup", fn := fun _ => fun
  | [d1, d2] => { results := [.lit (.bool true)], args := [d1, d2] }
  | _ => none }
def fnExactConjugateGroupRow : OpenClaim := { program := "ytgieofidogkbaaa", sum := "af4ff0b7f88de127bc730f830cab621f042d3d88bfa83ada404fcea986c6d685", func := "loop.example/g01285/laws.FnExactConjugateGroup", spec := "fnExactConjugateGroup", inPlace := ["internal/bytealg.Compare"], unfollowed := true, recurses := true, plainKeys := false, apart := false }
def FnExactConjugateGroupSaid : Prop := fnExactConjugateGroupRow.holds Try.pinned (OpenSpec.ofChange fnExactConjugateGroupSpec)

/-- ITS FALSE NEIGHBOUR: 'it returns false'. Refute it at one input. -/
def fnExactConjugateGroupWrong : ChangeSpec := { name := "fnExactConjugateGroup", fn := fun _ => fun
  | [d1, d2] => { results := [.lit (.bool false)], args := [d1, d2] }
  | _ => none }
def FnExactConjugateGroupWrongFalsely : Prop := fnExactConjugateGroupRow.holds Try.pinned (OpenSpec.ofChange fnExactConjugateGroupWrong)

/-- 'laws.FnExactLeadPoly': WHATEVER THE INPUT: true; the input reads as it did. -/
def fnExactLeadPolySpec : ChangeSpec := { name := "fnExactLeadPoly", fn := fun _ => fun
  | [d1, d2] => { results := [.lit (.bool true)], args := [d1, d2] }
  | _ => none }
def fnExactLeadPolyRow : OpenClaim := { program := "ytgieofidogkbaaa", sum := "af4ff0b7f88de127bc730f830cab621f042d3d88bfa83ada404fcea986c6d685", func := "loop.example/g01285/laws.FnExactLeadPoly", spec := "fnExactLeadPoly", unfollowed := true, recurses := true, plainKeys := false, apart := false }
def FnExactLeadPolySaid : Prop := fnExactLeadPolyRow.holds Try.pinned (OpenSpec.ofChange fnExactLeadPolySpec)

/-- ITS FALSE NEIGHBOUR: 'it returns false'. Refute it at one input. -/
def fnExactLeadPolyWrong : ChangeSpec := { name := "fnExactLeadPoly", fn := fun _ => fun
  | [d1, d2] => { results := [.lit (.bool false)], args := [d1, d2] }
  | _ => none }
def FnExactLeadPolyWrongFalsely : Prop := fnExactLeadPolyRow.holds Try.pinned (OpenSpec.ofChange fnExactLeadPolyWrong)

/-- 'laws.FnExactOrbitOfPoint': WHATEVER THE INPUT: true; the input reads as it did. -/
def fnExactOrbitOfPointSpec : ChangeSpec := { name := "fnExactOrbitOfPoint", fn := fun _ => fun
  | [d1, d2] => { results := [.lit (.bool true)], args := [d1, d2] }
  | _ => none }
def fnExactOrbitOfPointRow : OpenClaim := { program := "ytgieofidogkbaaa", sum := "af4ff0b7f88de127bc730f830cab621f042d3d88bfa83ada404fcea986c6d685", func := "loop.example/g01285/laws.FnExactOrbitOfPoint", spec := "fnExactOrbitOfPoint", inPlace := ["internal/bytealg.Compare"], unfollowed := true, recurses := true, plainKeys := false, apart := false }
def FnExactOrbitOfPointSaid : Prop := fnExactOrbitOfPointRow.holds Try.pinned (OpenSpec.ofChange fnExactOrbitOfPointSpec)

/-- ITS FALSE NEIGHBOUR: 'it returns false'. Refute it at one input. -/
def fnExactOrbitOfPointWrong : ChangeSpec := { name := "fnExactOrbitOfPoint", fn := fun _ => fun
  | [d1, d2] => { results := [.lit (.bool false)], args := [d1, d2] }
  | _ => none }
def FnExactOrbitOfPointWrongFalsely : Prop := fnExactOrbitOfPointRow.holds Try.pinned (OpenSpec.ofChange fnExactOrbitOfPointWrong)

/-- 'laws.FnExactClassesOf': WHATEVER THE INPUT: true; the input reads as it did. -/
def fnExactClassesOfSpec : ChangeSpec := { name := "fnExactClassesOf", fn := fun _ => fun
  | [d] => { results := [.lit (.bool true)], args := [d] }
  | _ => none }
def fnExactClassesOfRow : OpenClaim := { program := "ytgieofidogkbaaa", sum := "af4ff0b7f88de127bc730f830cab621f042d3d88bfa83ada404fcea986c6d685", func := "loop.example/g01285/laws.FnExactClassesOf", spec := "fnExactClassesOf", inPlace := ["internal/bytealg.Compare"], unfollowed := true, recurses := true, plainKeys := false, apart := false }
def FnExactClassesOfSaid : Prop := fnExactClassesOfRow.holds Try.pinned (OpenSpec.ofChange fnExactClassesOfSpec)

/-- ITS FALSE NEIGHBOUR: 'it returns false'. Refute it at one input. -/
def fnExactClassesOfWrong : ChangeSpec := { name := "fnExactClassesOf", fn := fun _ => fun
  | [d] => { results := [.lit (.bool false)], args := [d] }
  | _ => none }
def FnExactClassesOfWrongFalsely : Prop := fnExactClassesOfRow.holds Try.pinned (OpenSpec.ofChange fnExactClassesOfWrong)

/- THE SECOND FORM. 'bulk': how many values and letters a reading holds, each counted each time it is reached (what is shared counts as often as it is met; a slice's spare places count too). A statement '..UptoSaid' is the law's where the arguments, and the package variables that the reading takes, are together of bulk at most 1048576: NARROWER than '..Said'. Prove '..Said' where nothing that the law and all that it calls make is longer than what came in: it says more and counts as full. Else prove '..UptoSaid'. A law counts once. -/
mutual
def uptoBulk {H : Type} : DataW H → Nat
  | .lit (.string bytes) => bytes.length + 1
  | .lit _ => 1
  | .nil => 1
  | .ptr d => uptoBulk d + 1
  | .slice elems spare => uptoBulkAll elems + uptoBulkAll spare + 1
  | .agg parts => uptoBulkAll parts + 1
  | .iface _ d => uptoBulk d + 1
  | .map entries => uptoBulkEntries entries + 1
  | .held _ => 1
def uptoBulkAll {H : Type} : List (DataW H) → Nat
  | [] => 0
  | d :: r => uptoBulk d + uptoBulkAll r
def uptoBulkEntries {H : Type} : List (Lit × DataW H) → Nat
  | [] => 0
  | x :: r => uptoBulkEntry x + uptoBulkEntries r
def uptoBulkEntry {H : Type} : Lit × DataW H → Nat
  | (.string bytes, d) => bytes.length + uptoBulk d + 1
  | (_, d) => uptoBulk d + 1
 end
def uptoSmall : (H : Type) → List (DataW H) → Bool := fun _ ds => decide (uptoBulkAll ds ≤ 1048576)
def OpenSpec.upto (s : _root_.Go.ChangeSpec) : _root_.Go.OpenSpec := { _root_.Go.OpenSpec.ofChange s with cond := some uptoSmall }

/-- 'laws.FnExactMonomialsOf', WHERE WHAT IT READS IS OF BULK AT MOST 1048576: true; the input reads as it did. -/
def fnExactMonomialsOfUptoRow : OpenClaim := { program := "ytgieofidogkbaaa", sum := "af4ff0b7f88de127bc730f830cab621f042d3d88bfa83ada404fcea986c6d685", func := "loop.example/g01285/laws.FnExactMonomialsOf", spec := "fnExactMonomialsOf", plainKeys := false, apart := false, narrowed := true }
def FnExactMonomialsOfUptoSaid : Prop := fnExactMonomialsOfUptoRow.holds Try.pinned (OpenSpec.upto fnExactMonomialsOfSpec)

/-- 'laws.FnExactIsMatrix', WHERE WHAT IT READS IS OF BULK AT MOST 1048576: true; the input reads as it did. -/
def fnExactIsMatrixUptoRow : OpenClaim := { program := "ytgieofidogkbaaa", sum := "af4ff0b7f88de127bc730f830cab621f042d3d88bfa83ada404fcea986c6d685", func := "loop.example/g01285/laws.FnExactIsMatrix", spec := "fnExactIsMatrix", unfollowed := true, recurses := true, plainKeys := false, apart := false, narrowed := true }
def FnExactIsMatrixUptoSaid : Prop := fnExactIsMatrixUptoRow.holds Try.pinned (OpenSpec.upto fnExactIsMatrixSpec)

/-- 'laws.FnExactIsPoly', WHERE WHAT IT READS IS OF BULK AT MOST 1048576: true; the input reads as it did. -/
def fnExactIsPolyUptoRow : OpenClaim := { program := "ytgieofidogkbaaa", sum := "af4ff0b7f88de127bc730f830cab621f042d3d88bfa83ada404fcea986c6d685", func := "loop.example/g01285/laws.FnExactIsPoly", spec := "fnExactIsPoly", plainKeys := false, apart := false, narrowed := true }
def FnExactIsPolyUptoSaid : Prop := fnExactIsPolyUptoRow.holds Try.pinned (OpenSpec.upto fnExactIsPolySpec)

/-- 'laws.FnExactDegreeOf', WHERE WHAT IT READS IS OF BULK AT MOST 1048576: true; the input reads as it did. -/
def fnExactDegreeOfUptoRow : OpenClaim := { program := "ytgieofidogkbaaa", sum := "af4ff0b7f88de127bc730f830cab621f042d3d88bfa83ada404fcea986c6d685", func := "loop.example/g01285/laws.FnExactDegreeOf", spec := "fnExactDegreeOf", plainKeys := false, apart := false, narrowed := true }
def FnExactDegreeOfUptoSaid : Prop := fnExactDegreeOfUptoRow.holds Try.pinned (OpenSpec.upto fnExactDegreeOfSpec)

/-- 'laws.FnExactIsHomogeneous', WHERE WHAT IT READS IS OF BULK AT MOST 1048576: true; the input reads as it did. -/
def fnExactIsHomogeneousUptoRow : OpenClaim := { program := "ytgieofidogkbaaa", sum := "af4ff0b7f88de127bc730f830cab621f042d3d88bfa83ada404fcea986c6d685", func := "loop.example/g01285/laws.FnExactIsHomogeneous", spec := "fnExactIsHomogeneous", plainKeys := false, apart := false, narrowed := true }
def FnExactIsHomogeneousUptoSaid : Prop := fnExactIsHomogeneousUptoRow.holds Try.pinned (OpenSpec.upto fnExactIsHomogeneousSpec)

/-- 'laws.FnExactDeterminantOf', WHERE WHAT IT READS IS OF BULK AT MOST 1048576: true; the input reads as it did. -/
def fnExactDeterminantOfUptoRow : OpenClaim := { program := "ytgieofidogkbaaa", sum := "af4ff0b7f88de127bc730f830cab621f042d3d88bfa83ada404fcea986c6d685", func := "loop.example/g01285/laws.FnExactDeterminantOf", spec := "fnExactDeterminantOf", unfollowed := true, recurses := true, plainKeys := false, apart := false, narrowed := true }
def FnExactDeterminantOfUptoSaid : Prop := fnExactDeterminantOfUptoRow.holds Try.pinned (OpenSpec.upto fnExactDeterminantOfSpec)

/-- 'laws.FnExactMultiplyMatrices', WHERE WHAT IT READS IS OF BULK AT MOST 1048576: true; the input reads as it did. -/
def fnExactMultiplyMatricesUptoRow : OpenClaim := { program := "ytgieofidogkbaaa", sum := "af4ff0b7f88de127bc730f830cab621f042d3d88bfa83ada404fcea986c6d685", func := "loop.example/g01285/laws.FnExactMultiplyMatrices", spec := "fnExactMultiplyMatrices", unfollowed := true, recurses := true, plainKeys := false, apart := false, narrowed := true }
def FnExactMultiplyMatricesUptoSaid : Prop := fnExactMultiplyMatricesUptoRow.holds Try.pinned (OpenSpec.upto fnExactMultiplyMatricesSpec)

/-- 'laws.FnExactPartOfDegree', WHERE WHAT IT READS IS OF BULK AT MOST 1048576: true; the input reads as it did. -/
def fnExactPartOfDegreeUptoRow : OpenClaim := { program := "ytgieofidogkbaaa", sum := "af4ff0b7f88de127bc730f830cab621f042d3d88bfa83ada404fcea986c6d685", func := "loop.example/g01285/laws.FnExactPartOfDegree", spec := "fnExactPartOfDegree", plainKeys := false, apart := false, narrowed := true }
def FnExactPartOfDegreeUptoSaid : Prop := fnExactPartOfDegreeUptoRow.holds Try.pinned (OpenSpec.upto fnExactPartOfDegreeSpec)

/-- 'laws.FnExactValueAt', WHERE WHAT IT READS IS OF BULK AT MOST 1048576: true; the input reads as it did. -/
def fnExactValueAtUptoRow : OpenClaim := { program := "ytgieofidogkbaaa", sum := "af4ff0b7f88de127bc730f830cab621f042d3d88bfa83ada404fcea986c6d685", func := "loop.example/g01285/laws.FnExactValueAt", spec := "fnExactValueAt", plainKeys := false, apart := false, narrowed := true }
def FnExactValueAtUptoSaid : Prop := fnExactValueAtUptoRow.holds Try.pinned (OpenSpec.upto fnExactValueAtSpec)

/-- 'laws.FnExactOrderOfMatrix', WHERE WHAT IT READS IS OF BULK AT MOST 1048576: true; the input reads as it did. -/
def fnExactOrderOfMatrixUptoRow : OpenClaim := { program := "ytgieofidogkbaaa", sum := "af4ff0b7f88de127bc730f830cab621f042d3d88bfa83ada404fcea986c6d685", func := "loop.example/g01285/laws.FnExactOrderOfMatrix", spec := "fnExactOrderOfMatrix", unfollowed := true, recurses := true, plainKeys := false, apart := false, narrowed := true }
def FnExactOrderOfMatrixUptoSaid : Prop := fnExactOrderOfMatrixUptoRow.holds Try.pinned (OpenSpec.upto fnExactOrderOfMatrixSpec)

/-- 'laws.FnExactCoefficientAt', WHERE WHAT IT READS IS OF BULK AT MOST 1048576: true; the input reads as it did. -/
def fnExactCoefficientAtUptoRow : OpenClaim := { program := "ytgieofidogkbaaa", sum := "af4ff0b7f88de127bc730f830cab621f042d3d88bfa83ada404fcea986c6d685", func := "loop.example/g01285/laws.FnExactCoefficientAt", spec := "fnExactCoefficientAt", plainKeys := false, apart := false, narrowed := true }
def FnExactCoefficientAtUptoSaid : Prop := fnExactCoefficientAtUptoRow.holds Try.pinned (OpenSpec.upto fnExactCoefficientAtSpec)

/-- 'laws.FnExactIsGroup', WHERE WHAT IT READS IS OF BULK AT MOST 1048576: true; the input reads as it did. -/
def fnExactIsGroupUptoRow : OpenClaim := { program := "ytgieofidogkbaaa", sum := "af4ff0b7f88de127bc730f830cab621f042d3d88bfa83ada404fcea986c6d685", func := "loop.example/g01285/laws.FnExactIsGroup", spec := "fnExactIsGroup", inPlace := ["internal/bytealg.Compare"], unfollowed := true, recurses := true, plainKeys := false, apart := false, narrowed := true }
def FnExactIsGroupUptoSaid : Prop := fnExactIsGroupUptoRow.holds Try.pinned (OpenSpec.upto fnExactIsGroupSpec)

/-- 'laws.FnExactIsModular', WHERE WHAT IT READS IS OF BULK AT MOST 1048576: true; the input reads as it did. -/
def fnExactIsModularUptoRow : OpenClaim := { program := "ytgieofidogkbaaa", sum := "af4ff0b7f88de127bc730f830cab621f042d3d88bfa83ada404fcea986c6d685", func := "loop.example/g01285/laws.FnExactIsModular", spec := "fnExactIsModular", inPlace := ["internal/bytealg.Compare"], unfollowed := true, recurses := true, plainKeys := false, apart := false, narrowed := true }
def FnExactIsModularUptoSaid : Prop := fnExactIsModularUptoRow.holds Try.pinned (OpenSpec.upto fnExactIsModularSpec)

/-- 'laws.FnExactCentreOf', WHERE WHAT IT READS IS OF BULK AT MOST 1048576: true; the input reads as it did. -/
def fnExactCentreOfUptoRow : OpenClaim := { program := "ytgieofidogkbaaa", sum := "af4ff0b7f88de127bc730f830cab621f042d3d88bfa83ada404fcea986c6d685", func := "loop.example/g01285/laws.FnExactCentreOf", spec := "fnExactCentreOf", inPlace := ["internal/bytealg.Compare"], unfollowed := true, recurses := true, plainKeys := false, apart := false, narrowed := true }
def FnExactCentreOfUptoSaid : Prop := fnExactCentreOfUptoRow.holds Try.pinned (OpenSpec.upto fnExactCentreOfSpec)

/-- 'laws.FnExactStabiliserOf', WHERE WHAT IT READS IS OF BULK AT MOST 1048576: true; the input reads as it did. -/
def fnExactStabiliserOfUptoRow : OpenClaim := { program := "ytgieofidogkbaaa", sum := "af4ff0b7f88de127bc730f830cab621f042d3d88bfa83ada404fcea986c6d685", func := "loop.example/g01285/laws.FnExactStabiliserOf", spec := "fnExactStabiliserOf", inPlace := ["internal/bytealg.Compare"], unfollowed := true, recurses := true, plainKeys := false, apart := false, narrowed := true }
def FnExactStabiliserOfUptoSaid : Prop := fnExactStabiliserOfUptoRow.holds Try.pinned (OpenSpec.upto fnExactStabiliserOfSpec)

/-- 'laws.FnExactMonomialOf', WHERE WHAT IT READS IS OF BULK AT MOST 1048576: true; the input reads as it did. -/
def fnExactMonomialOfUptoRow : OpenClaim := { program := "ytgieofidogkbaaa", sum := "af4ff0b7f88de127bc730f830cab621f042d3d88bfa83ada404fcea986c6d685", func := "loop.example/g01285/laws.FnExactMonomialOf", spec := "fnExactMonomialOf", unfollowed := true, recurses := true, plainKeys := false, apart := false, narrowed := true }
def FnExactMonomialOfUptoSaid : Prop := fnExactMonomialOfUptoRow.holds Try.pinned (OpenSpec.upto fnExactMonomialOfSpec)

/-- 'laws.FnExactReduceRows', WHERE WHAT IT READS IS OF BULK AT MOST 1048576: true; the input reads as it did. -/
def fnExactReduceRowsUptoRow : OpenClaim := { program := "ytgieofidogkbaaa", sum := "af4ff0b7f88de127bc730f830cab621f042d3d88bfa83ada404fcea986c6d685", func := "loop.example/g01285/laws.FnExactReduceRows", spec := "fnExactReduceRows", unfollowed := true, recurses := true, plainKeys := false, apart := false, narrowed := true }
def FnExactReduceRowsUptoSaid : Prop := fnExactReduceRowsUptoRow.holds Try.pinned (OpenSpec.upto fnExactReduceRowsSpec)

/-- 'laws.FnExactInverseMatrix', WHERE WHAT IT READS IS OF BULK AT MOST 1048576: true; the input reads as it did. -/
def fnExactInverseMatrixUptoRow : OpenClaim := { program := "ytgieofidogkbaaa", sum := "af4ff0b7f88de127bc730f830cab621f042d3d88bfa83ada404fcea986c6d685", func := "loop.example/g01285/laws.FnExactInverseMatrix", spec := "fnExactInverseMatrix", unfollowed := true, recurses := true, plainKeys := false, apart := false, narrowed := true }
def FnExactInverseMatrixUptoSaid : Prop := fnExactInverseMatrixUptoRow.holds Try.pinned (OpenSpec.upto fnExactInverseMatrixSpec)

/-- 'laws.FnExactDerivativeOf', WHERE WHAT IT READS IS OF BULK AT MOST 1048576: true; the input reads as it did. -/
def fnExactDerivativeOfUptoRow : OpenClaim := { program := "ytgieofidogkbaaa", sum := "af4ff0b7f88de127bc730f830cab621f042d3d88bfa83ada404fcea986c6d685", func := "loop.example/g01285/laws.FnExactDerivativeOf", spec := "fnExactDerivativeOf", unfollowed := true, recurses := true, plainKeys := false, apart := false, narrowed := true }
def FnExactDerivativeOfUptoSaid : Prop := fnExactDerivativeOfUptoRow.holds Try.pinned (OpenSpec.upto fnExactDerivativeOfSpec)

/-- 'laws.FnExactAddPolys', WHERE WHAT IT READS IS OF BULK AT MOST 1048576: true; the input reads as it did. -/
def fnExactAddPolysUptoRow : OpenClaim := { program := "ytgieofidogkbaaa", sum := "af4ff0b7f88de127bc730f830cab621f042d3d88bfa83ada404fcea986c6d685", func := "loop.example/g01285/laws.FnExactAddPolys", spec := "fnExactAddPolys", unfollowed := true, recurses := true, plainKeys := false, apart := false, narrowed := true }
def FnExactAddPolysUptoSaid : Prop := fnExactAddPolysUptoRow.holds Try.pinned (OpenSpec.upto fnExactAddPolysSpec)

/-- 'laws.FnExactMultiplyPolys', WHERE WHAT IT READS IS OF BULK AT MOST 1048576: true; the input reads as it did. -/
def fnExactMultiplyPolysUptoRow : OpenClaim := { program := "ytgieofidogkbaaa", sum := "af4ff0b7f88de127bc730f830cab621f042d3d88bfa83ada404fcea986c6d685", func := "loop.example/g01285/laws.FnExactMultiplyPolys", spec := "fnExactMultiplyPolys", unfollowed := true, recurses := true, plainKeys := false, apart := false, narrowed := true }
def FnExactMultiplyPolysUptoSaid : Prop := fnExactMultiplyPolysUptoRow.holds Try.pinned (OpenSpec.upto fnExactMultiplyPolysSpec)

/-- 'laws.FnExactPowerPoly', WHERE WHAT IT READS IS OF BULK AT MOST 1048576: true; the input reads as it did. -/
def fnExactPowerPolyUptoRow : OpenClaim := { program := "ytgieofidogkbaaa", sum := "af4ff0b7f88de127bc730f830cab621f042d3d88bfa83ada404fcea986c6d685", func := "loop.example/g01285/laws.FnExactPowerPoly", spec := "fnExactPowerPoly", unfollowed := true, recurses := true, plainKeys := false, apart := false, narrowed := true }
def FnExactPowerPolyUptoSaid : Prop := fnExactPowerPolyUptoRow.holds Try.pinned (OpenSpec.upto fnExactPowerPolySpec)

/-- 'laws.FnExactNamedGroup', WHERE WHAT IT READS IS OF BULK AT MOST 1048576: true; the input reads as it did. -/
def fnExactNamedGroupUptoRow : OpenClaim := { program := "ytgieofidogkbaaa", sum := "af4ff0b7f88de127bc730f830cab621f042d3d88bfa83ada404fcea986c6d685", func := "loop.example/g01285/laws.FnExactNamedGroup", spec := "fnExactNamedGroup", inPlace := ["internal/bytealg.Compare"], unfollowed := true, recurses := true, plainKeys := false, apart := false, narrowed := true }
def FnExactNamedGroupUptoSaid : Prop := fnExactNamedGroupUptoRow.holds Try.pinned (OpenSpec.upto fnExactNamedGroupSpec)

/-- 'laws.FnExactGroupOf', WHERE WHAT IT READS IS OF BULK AT MOST 1048576: true; the input reads as it did. -/
def fnExactGroupOfUptoRow : OpenClaim := { program := "ytgieofidogkbaaa", sum := "af4ff0b7f88de127bc730f830cab621f042d3d88bfa83ada404fcea986c6d685", func := "loop.example/g01285/laws.FnExactGroupOf", spec := "fnExactGroupOf", inPlace := ["internal/bytealg.Compare"], unfollowed := true, recurses := true, plainKeys := false, apart := false, narrowed := true }
def FnExactGroupOfUptoSaid : Prop := fnExactGroupOfUptoRow.holds Try.pinned (OpenSpec.upto fnExactGroupOfSpec)

/-- 'laws.FnExactSubstitutePoly', WHERE WHAT IT READS IS OF BULK AT MOST 1048576: true; the input reads as it did. -/
def fnExactSubstitutePolyUptoRow : OpenClaim := { program := "ytgieofidogkbaaa", sum := "af4ff0b7f88de127bc730f830cab621f042d3d88bfa83ada404fcea986c6d685", func := "loop.example/g01285/laws.FnExactSubstitutePoly", spec := "fnExactSubstitutePoly", unfollowed := true, recurses := true, plainKeys := false, apart := false, narrowed := true }
def FnExactSubstitutePolyUptoSaid : Prop := fnExactSubstitutePolyUptoRow.holds Try.pinned (OpenSpec.upto fnExactSubstitutePolySpec)

/-- 'laws.FnExactSubgroupOf', WHERE WHAT IT READS IS OF BULK AT MOST 1048576: true; the input reads as it did. -/
def fnExactSubgroupOfUptoRow : OpenClaim := { program := "ytgieofidogkbaaa", sum := "af4ff0b7f88de127bc730f830cab621f042d3d88bfa83ada404fcea986c6d685", func := "loop.example/g01285/laws.FnExactSubgroupOf", spec := "fnExactSubgroupOf", inPlace := ["internal/bytealg.Compare"], unfollowed := true, recurses := true, plainKeys := false, apart := false, narrowed := true }
def FnExactSubgroupOfUptoSaid : Prop := fnExactSubgroupOfUptoRow.holds Try.pinned (OpenSpec.upto fnExactSubgroupOfSpec)

/-- 'laws.FnExactConjugateGroup', WHERE WHAT IT READS IS OF BULK AT MOST 1048576: true; the input reads as it did. -/
def fnExactConjugateGroupUptoRow : OpenClaim := { program := "ytgieofidogkbaaa", sum := "af4ff0b7f88de127bc730f830cab621f042d3d88bfa83ada404fcea986c6d685", func := "loop.example/g01285/laws.FnExactConjugateGroup", spec := "fnExactConjugateGroup", inPlace := ["internal/bytealg.Compare"], unfollowed := true, recurses := true, plainKeys := false, apart := false, narrowed := true }
def FnExactConjugateGroupUptoSaid : Prop := fnExactConjugateGroupUptoRow.holds Try.pinned (OpenSpec.upto fnExactConjugateGroupSpec)

/-- 'laws.FnExactLeadPoly', WHERE WHAT IT READS IS OF BULK AT MOST 1048576: true; the input reads as it did. -/
def fnExactLeadPolyUptoRow : OpenClaim := { program := "ytgieofidogkbaaa", sum := "af4ff0b7f88de127bc730f830cab621f042d3d88bfa83ada404fcea986c6d685", func := "loop.example/g01285/laws.FnExactLeadPoly", spec := "fnExactLeadPoly", unfollowed := true, recurses := true, plainKeys := false, apart := false, narrowed := true }
def FnExactLeadPolyUptoSaid : Prop := fnExactLeadPolyUptoRow.holds Try.pinned (OpenSpec.upto fnExactLeadPolySpec)

/-- 'laws.FnExactOrbitOfPoint', WHERE WHAT IT READS IS OF BULK AT MOST 1048576: true; the input reads as it did. -/
def fnExactOrbitOfPointUptoRow : OpenClaim := { program := "ytgieofidogkbaaa", sum := "af4ff0b7f88de127bc730f830cab621f042d3d88bfa83ada404fcea986c6d685", func := "loop.example/g01285/laws.FnExactOrbitOfPoint", spec := "fnExactOrbitOfPoint", inPlace := ["internal/bytealg.Compare"], unfollowed := true, recurses := true, plainKeys := false, apart := false, narrowed := true }
def FnExactOrbitOfPointUptoSaid : Prop := fnExactOrbitOfPointUptoRow.holds Try.pinned (OpenSpec.upto fnExactOrbitOfPointSpec)

/-- 'laws.FnExactClassesOf', WHERE WHAT IT READS IS OF BULK AT MOST 1048576: true; the input reads as it did. -/
def fnExactClassesOfUptoRow : OpenClaim := { program := "ytgieofidogkbaaa", sum := "af4ff0b7f88de127bc730f830cab621f042d3d88bfa83ada404fcea986c6d685", func := "loop.example/g01285/laws.FnExactClassesOf", spec := "fnExactClassesOf", inPlace := ["internal/bytealg.Compare"], unfollowed := true, recurses := true, plainKeys := false, apart := false, narrowed := true }
def FnExactClassesOfUptoSaid : Prop := fnExactClassesOfUptoRow.holds Try.pinned (OpenSpec.upto fnExactClassesOfSpec)

end Rows
end Go.Proofs.Ytgieofidogkbaaa
