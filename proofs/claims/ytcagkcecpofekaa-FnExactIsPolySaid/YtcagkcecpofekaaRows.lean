/-
  No cell of these rows narrows 'for every input' (looked for: loops, veiled, ifaces, maps, wideKeys, modest, calm, conditions, laid).
  DERIVED. THE GIVEN ROWS OF THIS SEAT. 6 by the template 'for every input the law returns true; each argument reads behind the call as it read before'; 0 by the template 'total and deterministic' (their statements: YtcagkcecpofekaaTotals.lean).
  GIVEN WITH THE SEED: the statements are not yours to turn. If you find one false, say at which input.
  Laid BY PROGRAM, IN A SANDBOX (cutbox-rows.mjs): the forced cells as the released guide's own fill.sh prints them over the translation abbb5fbddc6409fb… (all of the seat's roots in one cut). By AI agents, Wed Nov 11 2026. No macro, syntax, notation, axiom, sorry.
-/
import Derived.Test.YtcagkcecpofekaaChecked
import GoSem.Claim
import GoSem.ClaimJoined
import GoSem.ClaimMapViews
import Derived.JoinedTies
import Derived.KernelRfl
namespace Go.Proofs.Ytcagkcecpofekaa
/- THE CELL 'sum', in the pinned program and in every row, IS THE sha256 OF THE DUMP (.gsa) THAT YtcagkcecpofekaaProg.lean LOADS. Nothing in Lean hashes anything: it is a label: what it is worth is what the hold of that sum in a sandbox is worth. -/
noncomputable def Try.pinned : Pinned := { name := "ytcagkcecpofekaa", sum := "abbb5fbddc6409fb1977290f215ad4720bb652345246713552d260a483051504", checked := Try.checked }
namespace Rows
def none {H : Type} : Left H := { results := [], args := [] }

/-- 'laws.FnExactConstants': WHATEVER THE INPUT: true; the input reads as it did. -/
def fnExactConstantsSpec : ChangeSpec := { name := "fnExactConstants", fn := fun _ => fun
  | [] => { results := [.lit (.bool true)], args := [] }
  | _ => none }
def fnExactConstantsRow : OpenClaim := { program := "ytcagkcecpofekaa", sum := "abbb5fbddc6409fb1977290f215ad4720bb652345246713552d260a483051504", func := "loop.example/g01285/laws.FnExactConstants", spec := "fnExactConstants", apart := false }
def FnExactConstantsSaid : Prop := fnExactConstantsRow.holds Try.pinned (OpenSpec.ofChange fnExactConstantsSpec)

/-- ITS FALSE NEIGHBOUR: 'it returns false'. Refute it at one input. -/
def fnExactConstantsWrong : ChangeSpec := { name := "fnExactConstants", fn := fun _ => fun
  | [] => { results := [.lit (.bool false)], args := [] }
  | _ => none }
def FnExactConstantsWrongFalsely : Prop := fnExactConstantsRow.holds Try.pinned (OpenSpec.ofChange fnExactConstantsWrong)

/-- 'laws.FnExactIsFromBehind': WHATEVER THE INPUT: true; the input reads as it did. -/
def fnExactIsFromBehindSpec : ChangeSpec := { name := "fnExactIsFromBehind", fn := fun _ => fun
  | [d] => { results := [.lit (.bool true)], args := [d] }
  | _ => none }
def fnExactIsFromBehindRow : OpenClaim := { program := "ytcagkcecpofekaa", sum := "abbb5fbddc6409fb1977290f215ad4720bb652345246713552d260a483051504", func := "loop.example/g01285/laws.FnExactIsFromBehind", spec := "fnExactIsFromBehind", apart := false }
def FnExactIsFromBehindSaid : Prop := fnExactIsFromBehindRow.holds Try.pinned (OpenSpec.ofChange fnExactIsFromBehindSpec)

/-- ITS FALSE NEIGHBOUR: 'it returns false'. Refute it at one input. -/
def fnExactIsFromBehindWrong : ChangeSpec := { name := "fnExactIsFromBehind", fn := fun _ => fun
  | [d] => { results := [.lit (.bool false)], args := [d] }
  | _ => none }
def FnExactIsFromBehindWrongFalsely : Prop := fnExactIsFromBehindRow.holds Try.pinned (OpenSpec.ofChange fnExactIsFromBehindWrong)

/-- 'laws.FnExactMonomialsOf': WHATEVER THE INPUT: true; the input reads as it did. -/
def fnExactMonomialsOfSpec : ChangeSpec := { name := "fnExactMonomialsOf", fn := fun _ => fun
  | [d1, d2] => { results := [.lit (.bool true)], args := [d1, d2] }
  | _ => none }
def fnExactMonomialsOfRow : OpenClaim := { program := "ytcagkcecpofekaa", sum := "abbb5fbddc6409fb1977290f215ad4720bb652345246713552d260a483051504", func := "loop.example/g01285/laws.FnExactMonomialsOf", spec := "fnExactMonomialsOf", apart := false }
def FnExactMonomialsOfSaid : Prop := fnExactMonomialsOfRow.holds Try.pinned (OpenSpec.ofChange fnExactMonomialsOfSpec)

/-- ITS FALSE NEIGHBOUR: 'it returns false'. Refute it at one input. -/
def fnExactMonomialsOfWrong : ChangeSpec := { name := "fnExactMonomialsOf", fn := fun _ => fun
  | [d1, d2] => { results := [.lit (.bool false)], args := [d1, d2] }
  | _ => none }
def FnExactMonomialsOfWrongFalsely : Prop := fnExactMonomialsOfRow.holds Try.pinned (OpenSpec.ofChange fnExactMonomialsOfWrong)

/-- 'laws.FnExactIsMatrix': WHATEVER THE INPUT: true; the input reads as it did. -/
def fnExactIsMatrixSpec : ChangeSpec := { name := "fnExactIsMatrix", fn := fun _ => fun
  | [d1, d2, d3] => { results := [.lit (.bool true)], args := [d1, d2, d3] }
  | _ => none }
def fnExactIsMatrixRow : OpenClaim := { program := "ytcagkcecpofekaa", sum := "abbb5fbddc6409fb1977290f215ad4720bb652345246713552d260a483051504", func := "loop.example/g01285/laws.FnExactIsMatrix", spec := "fnExactIsMatrix", unfollowed := true, recurses := true, apart := false }
def FnExactIsMatrixSaid : Prop := fnExactIsMatrixRow.holds Try.pinned (OpenSpec.ofChange fnExactIsMatrixSpec)

/-- ITS FALSE NEIGHBOUR: 'it returns false'. Refute it at one input. -/
def fnExactIsMatrixWrong : ChangeSpec := { name := "fnExactIsMatrix", fn := fun _ => fun
  | [d1, d2, d3] => { results := [.lit (.bool false)], args := [d1, d2, d3] }
  | _ => none }
def FnExactIsMatrixWrongFalsely : Prop := fnExactIsMatrixRow.holds Try.pinned (OpenSpec.ofChange fnExactIsMatrixWrong)

/-- 'laws.FnExactIsPoly': WHATEVER THE INPUT: true; the input reads as it did. -/
def fnExactIsPolySpec : ChangeSpec := { name := "fnExactIsPoly", fn := fun _ => fun
  | [d] => { results := [.lit (.bool true)], args := [d] }
  | _ => none }
def fnExactIsPolyRow : OpenClaim := { program := "ytcagkcecpofekaa", sum := "abbb5fbddc6409fb1977290f215ad4720bb652345246713552d260a483051504", func := "loop.example/g01285/laws.FnExactIsPoly", spec := "fnExactIsPoly", apart := false }
def FnExactIsPolySaid : Prop := fnExactIsPolyRow.holds Try.pinned (OpenSpec.ofChange fnExactIsPolySpec)

/-- ITS FALSE NEIGHBOUR: 'it returns false'. Refute it at one input. -/
def fnExactIsPolyWrong : ChangeSpec := { name := "fnExactIsPoly", fn := fun _ => fun
  | [d] => { results := [.lit (.bool false)], args := [d] }
  | _ => none }
def FnExactIsPolyWrongFalsely : Prop := fnExactIsPolyRow.holds Try.pinned (OpenSpec.ofChange fnExactIsPolyWrong)

/-- 'laws.FnExactDegreeOf': WHATEVER THE INPUT: true; the input reads as it did. -/
def fnExactDegreeOfSpec : ChangeSpec := { name := "fnExactDegreeOf", fn := fun _ => fun
  | [d] => { results := [.lit (.bool true)], args := [d] }
  | _ => none }
def fnExactDegreeOfRow : OpenClaim := { program := "ytcagkcecpofekaa", sum := "abbb5fbddc6409fb1977290f215ad4720bb652345246713552d260a483051504", func := "loop.example/g01285/laws.FnExactDegreeOf", spec := "fnExactDegreeOf", apart := false }
def FnExactDegreeOfSaid : Prop := fnExactDegreeOfRow.holds Try.pinned (OpenSpec.ofChange fnExactDegreeOfSpec)

/-- ITS FALSE NEIGHBOUR: 'it returns false'. Refute it at one input. -/
def fnExactDegreeOfWrong : ChangeSpec := { name := "fnExactDegreeOf", fn := fun _ => fun
  | [d] => { results := [.lit (.bool false)], args := [d] }
  | _ => none }
def FnExactDegreeOfWrongFalsely : Prop := fnExactDegreeOfRow.holds Try.pinned (OpenSpec.ofChange fnExactDegreeOfWrong)

/- THE SECOND FORM. 'bulk': how many values and letters a reading holds, each counted each time it is reached (what is shared counts as often as it is met; a slice's spare places count too). A statement '..UptoSaid' is the law's where the arguments, and the package variables that the reading takes, are together of bulk at most 1048576: NARROWER than '..Said'. Prove '..Said' where nothing that the law and all that it calls make is longer than what came in: it says more and counts as full. Else prove '..UptoSaid'. A law counts once. -/
mutual
def uptoBulk {H : Type} : DataW H → Nat
  | .lit (.string bytes) => bytes.length + 1
  | .lit _ => 1
  | .nil => 1
  | .ptr d => uptoBulk d + 1
  | .slice elems spare => uptoBulkAll elems + uptoBulkAll spare + 1
  | .agg parts => uptoBulkAll parts + 1
  | .iface _ d => uptoBulk d + 1
  | .map entries => uptoBulkEntries entries + 1
  | .held _ => 1
def uptoBulkAll {H : Type} : List (DataW H) → Nat
  | [] => 0
  | d :: r => uptoBulk d + uptoBulkAll r
def uptoBulkEntries {H : Type} : List (Lit × DataW H) → Nat
  | [] => 0
  | x :: r => uptoBulkEntry x + uptoBulkEntries r
def uptoBulkEntry {H : Type} : Lit × DataW H → Nat
  | (.string bytes, d) => bytes.length + uptoBulk d + 1
  | (_, d) => uptoBulk d + 1
 end
def uptoSmall : (H : Type) → List (DataW H) → Bool := fun _ ds => decide (uptoBulkAll ds ≤ 1048576)
def OpenSpec.upto (s : _root_.Go.ChangeSpec) : _root_.Go.OpenSpec := { _root_.Go.OpenSpec.ofChange s with cond := some uptoSmall }

/-- 'laws.FnExactConstants', WHERE WHAT IT READS IS OF BULK AT MOST 1048576: true; the input reads as it did. -/
def fnExactConstantsUptoRow : OpenClaim := { program := "ytcagkcecpofekaa", sum := "abbb5fbddc6409fb1977290f215ad4720bb652345246713552d260a483051504", func := "loop.example/g01285/laws.FnExactConstants", spec := "fnExactConstants", apart := false, narrowed := true }
def FnExactConstantsUptoSaid : Prop := fnExactConstantsUptoRow.holds Try.pinned (OpenSpec.upto fnExactConstantsSpec)

/-- 'laws.FnExactIsFromBehind', WHERE WHAT IT READS IS OF BULK AT MOST 1048576: true; the input reads as it did. -/
def fnExactIsFromBehindUptoRow : OpenClaim := { program := "ytcagkcecpofekaa", sum := "abbb5fbddc6409fb1977290f215ad4720bb652345246713552d260a483051504", func := "loop.example/g01285/laws.FnExactIsFromBehind", spec := "fnExactIsFromBehind", apart := false, narrowed := true }
def FnExactIsFromBehindUptoSaid : Prop := fnExactIsFromBehindUptoRow.holds Try.pinned (OpenSpec.upto fnExactIsFromBehindSpec)

/-- 'laws.FnExactMonomialsOf', WHERE WHAT IT READS IS OF BULK AT MOST 1048576: true; the input reads as it did. -/
def fnExactMonomialsOfUptoRow : OpenClaim := { program := "ytcagkcecpofekaa", sum := "abbb5fbddc6409fb1977290f215ad4720bb652345246713552d260a483051504", func := "loop.example/g01285/laws.FnExactMonomialsOf", spec := "fnExactMonomialsOf", apart := false, narrowed := true }
def FnExactMonomialsOfUptoSaid : Prop := fnExactMonomialsOfUptoRow.holds Try.pinned (OpenSpec.upto fnExactMonomialsOfSpec)

/-- 'laws.FnExactIsMatrix', WHERE WHAT IT READS IS OF BULK AT MOST 1048576: true; the input reads as it did. -/
def fnExactIsMatrixUptoRow : OpenClaim := { program := "ytcagkcecpofekaa", sum := "abbb5fbddc6409fb1977290f215ad4720bb652345246713552d260a483051504", func := "loop.example/g01285/laws.FnExactIsMatrix", spec := "fnExactIsMatrix", unfollowed := true, recurses := true, apart := false, narrowed := true }
def FnExactIsMatrixUptoSaid : Prop := fnExactIsMatrixUptoRow.holds Try.pinned (OpenSpec.upto fnExactIsMatrixSpec)

/-- 'laws.FnExactIsPoly', WHERE WHAT IT READS IS OF BULK AT MOST 1048576: true; the input reads as it did. -/
def fnExactIsPolyUptoRow : OpenClaim := { program := "ytcagkcecpofekaa", sum := "abbb5fbddc6409fb1977290f215ad4720bb652345246713552d260a483051504", func := "loop.example/g01285/laws.FnExactIsPoly", spec := "fnExactIsPoly", apart := false, narrowed := true }
def FnExactIsPolyUptoSaid : Prop := fnExactIsPolyUptoRow.holds Try.pinned (OpenSpec.upto fnExactIsPolySpec)

/-- 'laws.FnExactDegreeOf', WHERE WHAT IT READS IS OF BULK AT MOST 1048576: true; the input reads as it did. -/
def fnExactDegreeOfUptoRow : OpenClaim := { program := "ytcagkcecpofekaa", sum := "abbb5fbddc6409fb1977290f215ad4720bb652345246713552d260a483051504", func := "loop.example/g01285/laws.FnExactDegreeOf", spec := "fnExactDegreeOf", apart := false, narrowed := true }
def FnExactDegreeOfUptoSaid : Prop := fnExactDegreeOfUptoRow.holds Try.pinned (OpenSpec.upto fnExactDegreeOfSpec)

end Rows
end Go.Proofs.Ytcagkcecpofekaa
