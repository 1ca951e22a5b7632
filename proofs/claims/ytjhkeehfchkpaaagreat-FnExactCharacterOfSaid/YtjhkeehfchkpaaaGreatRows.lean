/-
  No cell of these rows narrows 'for every input' (looked for: loops, veiled, ifaces, maps, wideKeys, modest, calm, conditions, laid).
  DERIVED. THE GIVEN ROWS OF THIS SEAT. 10 by the template 'for every input the law returns true; each argument reads behind the call as it read before'; 0 by the template 'total and deterministic' (their statements: YtjhkeehfchkpaaaGreatTotals.lean).
  GIVEN WITH THE SEED: the statements are not yours to turn. If you find one false, say at which input.
  Laid BY PROGRAM, IN A SANDBOX (cutbox-rows.mjs): the forced cells as the released guide's own fill.sh prints them over the translation 4990b027b494b905… (all of the seat's roots in one cut). By AI agents, Wed Nov 11 2026. No macro, syntax, notation, axiom, sorry.
-/
import Derived.Test.YtjhkeehfchkpaaaGreatChecked
import GoSem.Claim
import GoSem.ClaimJoined
import GoSem.ClaimMapViews
import Derived.JoinedTies
import Derived.KernelRfl
namespace Go.Proofs.YtjhkeehfchkpaaaGreat
/- THE CELL 'sum', in the pinned program and in every row, IS THE sha256 OF THE DUMP (.gsa) THAT YtjhkeehfchkpaaaGreatProg.lean LOADS. Nothing in Lean hashes anything: it is a label: what it is worth is what the hold of that sum in a sandbox is worth. -/
noncomputable def Tryz.pinned : Pinned := { name := "ytjhkeehfchkpaaagreat", sum := "4990b027b494b90560b3311ca990f3be592cd3c6497d56e91e722b69cd7ccd57", checked := Tryz.checked }
namespace Rows
def none {H : Type} : Left H := { results := [], args := [] }

/-- 'laws.FnExactIsInvariant': WHATEVER THE INPUT: true; the input reads as it did. -/
def fnExactIsInvariantSpec : ChangeSpec := { name := "fnExactIsInvariant", fn := fun _ => fun
  | [d1, d2] => { results := [.lit (.bool true)], args := [d1, d2] }
  | _ => none }
def fnExactIsInvariantRow : OpenClaim := { program := "ytjhkeehfchkpaaagreat", sum := "4990b027b494b90560b3311ca990f3be592cd3c6497d56e91e722b69cd7ccd57", func := "loop.example/g01285/laws.FnExactIsInvariant", spec := "fnExactIsInvariant", inPlace := ["internal/bytealg.Compare"], unfollowed := true, recurses := true, plainKeys := false, apart := false }
def FnExactIsInvariantSaid : Prop := fnExactIsInvariantRow.holds Tryz.pinned (OpenSpec.ofChange fnExactIsInvariantSpec)

/-- ITS FALSE NEIGHBOUR: 'it returns false'. Refute it at one input. -/
def fnExactIsInvariantWrong : ChangeSpec := { name := "fnExactIsInvariant", fn := fun _ => fun
  | [d1, d2] => { results := [.lit (.bool false)], args := [d1, d2] }
  | _ => none }
def FnExactIsInvariantWrongFalsely : Prop := fnExactIsInvariantRow.holds Tryz.pinned (OpenSpec.ofChange fnExactIsInvariantWrong)

/-- 'laws.FnExactTransferOf': WHATEVER THE INPUT: true; the input reads as it did. -/
def fnExactTransferOfSpec : ChangeSpec := { name := "fnExactTransferOf", fn := fun _ => fun
  | [d1, d2] => { results := [.lit (.bool true)], args := [d1, d2] }
  | _ => none }
def fnExactTransferOfRow : OpenClaim := { program := "ytjhkeehfchkpaaagreat", sum := "4990b027b494b90560b3311ca990f3be592cd3c6497d56e91e722b69cd7ccd57", func := "loop.example/g01285/laws.FnExactTransferOf", spec := "fnExactTransferOf", inPlace := ["internal/bytealg.Compare"], unfollowed := true, recurses := true, plainKeys := false, apart := false }
def FnExactTransferOfSaid : Prop := fnExactTransferOfRow.holds Tryz.pinned (OpenSpec.ofChange fnExactTransferOfSpec)

/-- ITS FALSE NEIGHBOUR: 'it returns false'. Refute it at one input. -/
def fnExactTransferOfWrong : ChangeSpec := { name := "fnExactTransferOf", fn := fun _ => fun
  | [d1, d2] => { results := [.lit (.bool false)], args := [d1, d2] }
  | _ => none }
def FnExactTransferOfWrongFalsely : Prop := fnExactTransferOfRow.holds Tryz.pinned (OpenSpec.ofChange fnExactTransferOfWrong)

/-- 'laws.FnExactReynoldsOf': WHATEVER THE INPUT: true; the input reads as it did. -/
def fnExactReynoldsOfSpec : ChangeSpec := { name := "fnExactReynoldsOf", fn := fun _ => fun
  | [d1, d2] => { results := [.lit (.bool true)], args := [d1, d2] }
  | _ => none }
def fnExactReynoldsOfRow : OpenClaim := { program := "ytjhkeehfchkpaaagreat", sum := "4990b027b494b90560b3311ca990f3be592cd3c6497d56e91e722b69cd7ccd57", func := "loop.example/g01285/laws.FnExactReynoldsOf", spec := "fnExactReynoldsOf", inPlace := ["internal/bytealg.Compare"], unfollowed := true, recurses := true, plainKeys := false, apart := false }
def FnExactReynoldsOfSaid : Prop := fnExactReynoldsOfRow.holds Tryz.pinned (OpenSpec.ofChange fnExactReynoldsOfSpec)

/-- ITS FALSE NEIGHBOUR: 'it returns false'. Refute it at one input. -/
def fnExactReynoldsOfWrong : ChangeSpec := { name := "fnExactReynoldsOf", fn := fun _ => fun
  | [d1, d2] => { results := [.lit (.bool false)], args := [d1, d2] }
  | _ => none }
def FnExactReynoldsOfWrongFalsely : Prop := fnExactReynoldsOfRow.holds Tryz.pinned (OpenSpec.ofChange fnExactReynoldsOfWrong)

/-- 'laws.FnExactStabiliserOfPoly': WHATEVER THE INPUT: true; the input reads as it did. -/
def fnExactStabiliserOfPolySpec : ChangeSpec := { name := "fnExactStabiliserOfPoly", fn := fun _ => fun
  | [d1, d2] => { results := [.lit (.bool true)], args := [d1, d2] }
  | _ => none }
def fnExactStabiliserOfPolyRow : OpenClaim := { program := "ytjhkeehfchkpaaagreat", sum := "4990b027b494b90560b3311ca990f3be592cd3c6497d56e91e722b69cd7ccd57", func := "loop.example/g01285/laws.FnExactStabiliserOfPoly", spec := "fnExactStabiliserOfPoly", inPlace := ["internal/bytealg.Compare"], unfollowed := true, recurses := true, plainKeys := false, apart := false }
def FnExactStabiliserOfPolySaid : Prop := fnExactStabiliserOfPolyRow.holds Tryz.pinned (OpenSpec.ofChange fnExactStabiliserOfPolySpec)

/-- ITS FALSE NEIGHBOUR: 'it returns false'. Refute it at one input. -/
def fnExactStabiliserOfPolyWrong : ChangeSpec := { name := "fnExactStabiliserOfPoly", fn := fun _ => fun
  | [d1, d2] => { results := [.lit (.bool false)], args := [d1, d2] }
  | _ => none }
def FnExactStabiliserOfPolyWrongFalsely : Prop := fnExactStabiliserOfPolyRow.holds Tryz.pinned (OpenSpec.ofChange fnExactStabiliserOfPolyWrong)

/-- 'laws.FnExactOrbitSum': WHATEVER THE INPUT: true; the input reads as it did. -/
def fnExactOrbitSumSpec : ChangeSpec := { name := "fnExactOrbitSum", fn := fun _ => fun
  | [d1, d2] => { results := [.lit (.bool true)], args := [d1, d2] }
  | _ => none }
def fnExactOrbitSumRow : OpenClaim := { program := "ytjhkeehfchkpaaagreat", sum := "4990b027b494b90560b3311ca990f3be592cd3c6497d56e91e722b69cd7ccd57", func := "loop.example/g01285/laws.FnExactOrbitSum", spec := "fnExactOrbitSum", inPlace := ["internal/bytealg.Compare"], unfollowed := true, recurses := true, plainKeys := false, apart := false }
def FnExactOrbitSumSaid : Prop := fnExactOrbitSumRow.holds Tryz.pinned (OpenSpec.ofChange fnExactOrbitSumSpec)

/-- ITS FALSE NEIGHBOUR: 'it returns false'. Refute it at one input. -/
def fnExactOrbitSumWrong : ChangeSpec := { name := "fnExactOrbitSum", fn := fun _ => fun
  | [d1, d2] => { results := [.lit (.bool false)], args := [d1, d2] }
  | _ => none }
def FnExactOrbitSumWrongFalsely : Prop := fnExactOrbitSumRow.holds Tryz.pinned (OpenSpec.ofChange fnExactOrbitSumWrong)

/-- 'laws.FnExactCharacterOf': WHATEVER THE INPUT: true; the input reads as it did. -/
def fnExactCharacterOfSpec : ChangeSpec := { name := "fnExactCharacterOf", fn := fun _ => fun
  | [d1, d2] => { results := [.lit (.bool true)], args := [d1, d2] }
  | _ => none }
def fnExactCharacterOfRow : OpenClaim := { program := "ytjhkeehfchkpaaagreat", sum := "4990b027b494b90560b3311ca990f3be592cd3c6497d56e91e722b69cd7ccd57", func := "loop.example/g01285/laws.FnExactCharacterOf", spec := "fnExactCharacterOf", inPlace := ["internal/bytealg.Compare"], unfollowed := true, recurses := true, plainKeys := false, apart := false }
def FnExactCharacterOfSaid : Prop := fnExactCharacterOfRow.holds Tryz.pinned (OpenSpec.ofChange fnExactCharacterOfSpec)

/-- ITS FALSE NEIGHBOUR: 'it returns false'. Refute it at one input. -/
def fnExactCharacterOfWrong : ChangeSpec := { name := "fnExactCharacterOf", fn := fun _ => fun
  | [d1, d2] => { results := [.lit (.bool false)], args := [d1, d2] }
  | _ => none }
def FnExactCharacterOfWrongFalsely : Prop := fnExactCharacterOfRow.holds Tryz.pinned (OpenSpec.ofChange fnExactCharacterOfWrong)

/-- 'laws.FnExactOrbitOfPoly': WHATEVER THE INPUT: true; the input reads as it did. -/
def fnExactOrbitOfPolySpec : ChangeSpec := { name := "fnExactOrbitOfPoly", fn := fun _ => fun
  | [d1, d2] => { results := [.lit (.bool true)], args := [d1, d2] }
  | _ => none }
def fnExactOrbitOfPolyRow : OpenClaim := { program := "ytjhkeehfchkpaaagreat", sum := "4990b027b494b90560b3311ca990f3be592cd3c6497d56e91e722b69cd7ccd57", func := "loop.example/g01285/laws.FnExactOrbitOfPoly", spec := "fnExactOrbitOfPoly", inPlace := ["internal/bytealg.Compare"], unfollowed := true, recurses := true, plainKeys := false, apart := false }
def FnExactOrbitOfPolySaid : Prop := fnExactOrbitOfPolyRow.holds Tryz.pinned (OpenSpec.ofChange fnExactOrbitOfPolySpec)

/-- ITS FALSE NEIGHBOUR: 'it returns false'. Refute it at one input. -/
def fnExactOrbitOfPolyWrong : ChangeSpec := { name := "fnExactOrbitOfPoly", fn := fun _ => fun
  | [d1, d2] => { results := [.lit (.bool false)], args := [d1, d2] }
  | _ => none }
def FnExactOrbitOfPolyWrongFalsely : Prop := fnExactOrbitOfPolyRow.holds Tryz.pinned (OpenSpec.ofChange fnExactOrbitOfPolyWrong)

/-- 'laws.FnExactOrbitProduct': WHATEVER THE INPUT: true; the input reads as it did. -/
def fnExactOrbitProductSpec : ChangeSpec := { name := "fnExactOrbitProduct", fn := fun _ => fun
  | [d1, d2] => { results := [.lit (.bool true)], args := [d1, d2] }
  | _ => none }
def fnExactOrbitProductRow : OpenClaim := { program := "ytjhkeehfchkpaaagreat", sum := "4990b027b494b90560b3311ca990f3be592cd3c6497d56e91e722b69cd7ccd57", func := "loop.example/g01285/laws.FnExactOrbitProduct", spec := "fnExactOrbitProduct", inPlace := ["internal/bytealg.Compare"], unfollowed := true, recurses := true, plainKeys := false, apart := false }
def FnExactOrbitProductSaid : Prop := fnExactOrbitProductRow.holds Tryz.pinned (OpenSpec.ofChange fnExactOrbitProductSpec)

/-- ITS FALSE NEIGHBOUR: 'it returns false'. Refute it at one input. -/
def fnExactOrbitProductWrong : ChangeSpec := { name := "fnExactOrbitProduct", fn := fun _ => fun
  | [d1, d2] => { results := [.lit (.bool false)], args := [d1, d2] }
  | _ => none }
def FnExactOrbitProductWrongFalsely : Prop := fnExactOrbitProductRow.holds Tryz.pinned (OpenSpec.ofChange fnExactOrbitProductWrong)

/-- 'laws.FnExactSymmetricFunction': WHATEVER THE INPUT: true; the input reads as it did. -/
def fnExactSymmetricFunctionSpec : ChangeSpec := { name := "fnExactSymmetricFunction", fn := fun _ => fun
  | [d1, d2, d3] => { results := [.lit (.bool true)], args := [d1, d2, d3] }
  | _ => none }
def fnExactSymmetricFunctionRow : OpenClaim := { program := "ytjhkeehfchkpaaagreat", sum := "4990b027b494b90560b3311ca990f3be592cd3c6497d56e91e722b69cd7ccd57", func := "loop.example/g01285/laws.FnExactSymmetricFunction", spec := "fnExactSymmetricFunction", inPlace := ["internal/bytealg.Compare"], unfollowed := true, recurses := true, plainKeys := false, apart := false }
def FnExactSymmetricFunctionSaid : Prop := fnExactSymmetricFunctionRow.holds Tryz.pinned (OpenSpec.ofChange fnExactSymmetricFunctionSpec)

/-- ITS FALSE NEIGHBOUR: 'it returns false'. Refute it at one input. -/
def fnExactSymmetricFunctionWrong : ChangeSpec := { name := "fnExactSymmetricFunction", fn := fun _ => fun
  | [d1, d2, d3] => { results := [.lit (.bool false)], args := [d1, d2, d3] }
  | _ => none }
def FnExactSymmetricFunctionWrongFalsely : Prop := fnExactSymmetricFunctionRow.holds Tryz.pinned (OpenSpec.ofChange fnExactSymmetricFunctionWrong)

/-- 'laws.FnExactPowerSum': WHATEVER THE INPUT: true; the input reads as it did. -/
def fnExactPowerSumSpec : ChangeSpec := { name := "fnExactPowerSum", fn := fun _ => fun
  | [d1, d2, d3] => { results := [.lit (.bool true)], args := [d1, d2, d3] }
  | _ => none }
def fnExactPowerSumRow : OpenClaim := { program := "ytjhkeehfchkpaaagreat", sum := "4990b027b494b90560b3311ca990f3be592cd3c6497d56e91e722b69cd7ccd57", func := "loop.example/g01285/laws.FnExactPowerSum", spec := "fnExactPowerSum", inPlace := ["internal/bytealg.Compare"], unfollowed := true, recurses := true, plainKeys := false, apart := false }
def FnExactPowerSumSaid : Prop := fnExactPowerSumRow.holds Tryz.pinned (OpenSpec.ofChange fnExactPowerSumSpec)

/-- ITS FALSE NEIGHBOUR: 'it returns false'. Refute it at one input. -/
def fnExactPowerSumWrong : ChangeSpec := { name := "fnExactPowerSum", fn := fun _ => fun
  | [d1, d2, d3] => { results := [.lit (.bool false)], args := [d1, d2, d3] }
  | _ => none }
def FnExactPowerSumWrongFalsely : Prop := fnExactPowerSumRow.holds Tryz.pinned (OpenSpec.ofChange fnExactPowerSumWrong)

/- THE SECOND FORM. 'bulk': how many values and letters a reading holds, each counted each time it is reached (what is shared counts as often as it is met; a slice's spare places count too). A statement '..UptoSaid' is the law's where the arguments, and the package variables that the reading takes, are together of bulk at most 1048576: NARROWER than '..Said'. Prove '..Said' where nothing that the law and all that it calls make is longer than what came in: it says more and counts as full. Else prove '..UptoSaid'. A law counts once. -/
mutual
def uptoBulk {H : Type} : DataW H → Nat
  | .lit (.string bytes) => bytes.length + 1
  | .lit _ => 1
  | .nil => 1
  | .ptr d => uptoBulk d + 1
  | .slice elems spare => uptoBulkAll elems + uptoBulkAll spare + 1
  | .agg parts => uptoBulkAll parts + 1
  | .iface _ d => uptoBulk d + 1
  | .map entries => uptoBulkEntries entries + 1
  | .held _ => 1
def uptoBulkAll {H : Type} : List (DataW H) → Nat
  | [] => 0
  | d :: r => uptoBulk d + uptoBulkAll r
def uptoBulkEntries {H : Type} : List (Lit × DataW H) → Nat
  | [] => 0
  | x :: r => uptoBulkEntry x + uptoBulkEntries r
def uptoBulkEntry {H : Type} : Lit × DataW H → Nat
  | (.string bytes, d) => bytes.length + uptoBulk d + 1
  | (_, d) => uptoBulk d + 1
 end
def uptoSmall : (H : Type) → List (DataW H) → Bool := fun _ ds => decide (uptoBulkAll ds ≤ 1048576)
def OpenSpec.upto (s : _root_.Go.ChangeSpec) : _root_.Go.OpenSpec := { _root_.Go.OpenSpec.ofChange s with cond := some uptoSmall }

/-- 'laws.FnExactIsInvariant', WHERE WHAT IT READS IS OF BULK AT MOST 1048576: true; the input reads as it did. -/
def fnExactIsInvariantUptoRow : OpenClaim := { program := "ytjhkeehfchkpaaagreat", sum := "4990b027b494b90560b3311ca990f3be592cd3c6497d56e91e722b69cd7ccd57", func := "loop.example/g01285/laws.FnExactIsInvariant", spec := "fnExactIsInvariant", inPlace := ["internal/bytealg.Compare"], unfollowed := true, recurses := true, plainKeys := false, apart := false, narrowed := true }
def FnExactIsInvariantUptoSaid : Prop := fnExactIsInvariantUptoRow.holds Tryz.pinned (OpenSpec.upto fnExactIsInvariantSpec)

/-- 'laws.FnExactTransferOf', WHERE WHAT IT READS IS OF BULK AT MOST 1048576: true; the input reads as it did. -/
def fnExactTransferOfUptoRow : OpenClaim := { program := "ytjhkeehfchkpaaagreat", sum := "4990b027b494b90560b3311ca990f3be592cd3c6497d56e91e722b69cd7ccd57", func := "loop.example/g01285/laws.FnExactTransferOf", spec := "fnExactTransferOf", inPlace := ["internal/bytealg.Compare"], unfollowed := true, recurses := true, plainKeys := false, apart := false, narrowed := true }
def FnExactTransferOfUptoSaid : Prop := fnExactTransferOfUptoRow.holds Tryz.pinned (OpenSpec.upto fnExactTransferOfSpec)

/-- 'laws.FnExactReynoldsOf', WHERE WHAT IT READS IS OF BULK AT MOST 1048576: true; the input reads as it did. -/
def fnExactReynoldsOfUptoRow : OpenClaim := { program := "ytjhkeehfchkpaaagreat", sum := "4990b027b494b90560b3311ca990f3be592cd3c6497d56e91e722b69cd7ccd57", func := "loop.example/g01285/laws.FnExactReynoldsOf", spec := "fnExactReynoldsOf", inPlace := ["internal/bytealg.Compare"], unfollowed := true, recurses := true, plainKeys := false, apart := false, narrowed := true }
def FnExactReynoldsOfUptoSaid : Prop := fnExactReynoldsOfUptoRow.holds Tryz.pinned (OpenSpec.upto fnExactReynoldsOfSpec)

/-- 'laws.FnExactStabiliserOfPoly', WHERE WHAT IT READS IS OF BULK AT MOST 1048576: true; the input reads as it did. -/
def fnExactStabiliserOfPolyUptoRow : OpenClaim := { program := "ytjhkeehfchkpaaagreat", sum := "4990b027b494b90560b3311ca990f3be592cd3c6497d56e91e722b69cd7ccd57", func := "loop.example/g01285/laws.FnExactStabiliserOfPoly", spec := "fnExactStabiliserOfPoly", inPlace := ["internal/bytealg.Compare"], unfollowed := true, recurses := true, plainKeys := false, apart := false, narrowed := true }
def FnExactStabiliserOfPolyUptoSaid : Prop := fnExactStabiliserOfPolyUptoRow.holds Tryz.pinned (OpenSpec.upto fnExactStabiliserOfPolySpec)

/-- 'laws.FnExactOrbitSum', WHERE WHAT IT READS IS OF BULK AT MOST 1048576: true; the input reads as it did. -/
def fnExactOrbitSumUptoRow : OpenClaim := { program := "ytjhkeehfchkpaaagreat", sum := "4990b027b494b90560b3311ca990f3be592cd3c6497d56e91e722b69cd7ccd57", func := "loop.example/g01285/laws.FnExactOrbitSum", spec := "fnExactOrbitSum", inPlace := ["internal/bytealg.Compare"], unfollowed := true, recurses := true, plainKeys := false, apart := false, narrowed := true }
def FnExactOrbitSumUptoSaid : Prop := fnExactOrbitSumUptoRow.holds Tryz.pinned (OpenSpec.upto fnExactOrbitSumSpec)

/-- 'laws.FnExactCharacterOf', WHERE WHAT IT READS IS OF BULK AT MOST 1048576: true; the input reads as it did. -/
def fnExactCharacterOfUptoRow : OpenClaim := { program := "ytjhkeehfchkpaaagreat", sum := "4990b027b494b90560b3311ca990f3be592cd3c6497d56e91e722b69cd7ccd57", func := "loop.example/g01285/laws.FnExactCharacterOf", spec := "fnExactCharacterOf", inPlace := ["internal/bytealg.Compare"], unfollowed := true, recurses := true, plainKeys := false, apart := false, narrowed := true }
def FnExactCharacterOfUptoSaid : Prop := fnExactCharacterOfUptoRow.holds Tryz.pinned (OpenSpec.upto fnExactCharacterOfSpec)

/-- 'laws.FnExactOrbitOfPoly', WHERE WHAT IT READS IS OF BULK AT MOST 1048576: true; the input reads as it did. -/
def fnExactOrbitOfPolyUptoRow : OpenClaim := { program := "ytjhkeehfchkpaaagreat", sum := "4990b027b494b90560b3311ca990f3be592cd3c6497d56e91e722b69cd7ccd57", func := "loop.example/g01285/laws.FnExactOrbitOfPoly", spec := "fnExactOrbitOfPoly", inPlace := ["internal/bytealg.Compare"], unfollowed := true, recurses := true, plainKeys := false, apart := false, narrowed := true }
def FnExactOrbitOfPolyUptoSaid : Prop := fnExactOrbitOfPolyUptoRow.holds Tryz.pinned (OpenSpec.upto fnExactOrbitOfPolySpec)

/-- 'laws.FnExactOrbitProduct', WHERE WHAT IT READS IS OF BULK AT MOST 1048576: true; the input reads as it did. -/
def fnExactOrbitProductUptoRow : OpenClaim := { program := "ytjhkeehfchkpaaagreat", sum := "4990b027b494b90560b3311ca990f3be592cd3c6497d56e91e722b69cd7ccd57", func := "loop.example/g01285/laws.FnExactOrbitProduct", spec := "fnExactOrbitProduct", inPlace := ["internal/bytealg.Compare"], unfollowed := true, recurses := true, plainKeys := false, apart := false, narrowed := true }
def FnExactOrbitProductUptoSaid : Prop := fnExactOrbitProductUptoRow.holds Tryz.pinned (OpenSpec.upto fnExactOrbitProductSpec)

/-- 'laws.FnExactSymmetricFunction', WHERE WHAT IT READS IS OF BULK AT MOST 1048576: true; the input reads as it did. -/
def fnExactSymmetricFunctionUptoRow : OpenClaim := { program := "ytjhkeehfchkpaaagreat", sum := "4990b027b494b90560b3311ca990f3be592cd3c6497d56e91e722b69cd7ccd57", func := "loop.example/g01285/laws.FnExactSymmetricFunction", spec := "fnExactSymmetricFunction", inPlace := ["internal/bytealg.Compare"], unfollowed := true, recurses := true, plainKeys := false, apart := false, narrowed := true }
def FnExactSymmetricFunctionUptoSaid : Prop := fnExactSymmetricFunctionUptoRow.holds Tryz.pinned (OpenSpec.upto fnExactSymmetricFunctionSpec)

/-- 'laws.FnExactPowerSum', WHERE WHAT IT READS IS OF BULK AT MOST 1048576: true; the input reads as it did. -/
def fnExactPowerSumUptoRow : OpenClaim := { program := "ytjhkeehfchkpaaagreat", sum := "4990b027b494b90560b3311ca990f3be592cd3c6497d56e91e722b69cd7ccd57", func := "loop.example/g01285/laws.FnExactPowerSum", spec := "fnExactPowerSum", inPlace := ["internal/bytealg.Compare"], unfollowed := true, recurses := true, plainKeys := false, apart := false, narrowed := true }
def FnExactPowerSumUptoSaid : Prop := fnExactPowerSumUptoRow.holds Tryz.pinned (OpenSpec.upto fnExactPowerSumSpec)

end Rows
end Go.Proofs.YtjhkeehfchkpaaaGreat
