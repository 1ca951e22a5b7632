/-
  No cell of these rows narrows 'for every input' (looked for: loops, veiled, ifaces, maps, wideKeys, modest, calm, conditions, laid).
  DERIVED. THE GIVEN ROWS OF THIS SEAT. 5 by the template 'for every input the law returns true; each argument reads behind the call as it read before'; 0 by the template 'total and deterministic' (their statements: YtimjhehagimcaaaTotals.lean).
  GIVEN WITH THE SEED: the statements are not yours to turn. If you find one false, say at which input.
  Laid BY PROGRAM, IN A SANDBOX (cutbox-rows.mjs): the forced cells as the released guide's own fill.sh prints them over the translation 5f8c6c1cb3a6358f… (all of the seat's roots in one cut). By AI agents, Wed Nov 11 2026. No macro, syntax, notation, axiom, sorry.
-/
import Derived.Test.YtimjhehagimcaaaChecked
import GoSem.Claim
import GoSem.ClaimJoined
import GoSem.ClaimMapViews
import Derived.JoinedTies
import Derived.KernelRfl
namespace Go.Proofs.Ytimjhehagimcaaa
/- THE CELL 'sum', in the pinned program and in every row, IS THE sha256 OF THE DUMP (.gsa) THAT YtimjhehagimcaaaProg.lean LOADS. Nothing in Lean hashes anything: it is a label: what it is worth is what the hold of that sum in a sandbox is worth. -/
noncomputable def Try.pinned : Pinned := { name := "ytimjhehagimcaaa", sum := "5f8c6c1cb3a6358f7f24dda327e4f5cd121a65a95bbe2073dcdd986943ecf612", checked := Try.checked }
namespace Rows
def none {H : Type} : Left H := { results := [], args := [] }

/-- 'laws.FnExactReduceRows': WHATEVER THE INPUT: true; the input reads as it did. -/
def fnExactReduceRowsSpec : ChangeSpec := { name := "fnExactReduceRows", fn := fun _ => fun
  | [d1, d2, d3] => { results := [.lit (.bool true)], args := [d1, d2, d3] }
  | _ => none }
def fnExactReduceRowsRow : OpenClaim := { program := "ytimjhehagimcaaa", sum := "5f8c6c1cb3a6358f7f24dda327e4f5cd121a65a95bbe2073dcdd986943ecf612", func := "loop.example/g01285/laws.FnExactReduceRows", spec := "fnExactReduceRows", unfollowed := true, recurses := true, plainKeys := false, apart := false }
def FnExactReduceRowsSaid : Prop := fnExactReduceRowsRow.holds Try.pinned (OpenSpec.ofChange fnExactReduceRowsSpec)

/-- ITS FALSE NEIGHBOUR: 'it returns false'. Refute it at one input. -/
def fnExactReduceRowsWrong : ChangeSpec := { name := "fnExactReduceRows", fn := fun _ => fun
  | [d1, d2, d3] => { results := [.lit (.bool false)], args := [d1, d2, d3] }
  | _ => none }
def FnExactReduceRowsWrongFalsely : Prop := fnExactReduceRowsRow.holds Try.pinned (OpenSpec.ofChange fnExactReduceRowsWrong)

/-- 'laws.FnExactNamedGroup': WHATEVER THE INPUT: true; the input reads as it did. -/
def fnExactNamedGroupSpec : ChangeSpec := { name := "fnExactNamedGroup", fn := fun _ => fun
  | [d1, d2] => { results := [.lit (.bool true)], args := [d1, d2] }
  | _ => none }
def fnExactNamedGroupRow : OpenClaim := { program := "ytimjhehagimcaaa", sum := "5f8c6c1cb3a6358f7f24dda327e4f5cd121a65a95bbe2073dcdd986943ecf612", func := "loop.example/g01285/laws.FnExactNamedGroup", spec := "fnExactNamedGroup", inPlace := ["internal/bytealg.Compare"], unfollowed := true, recurses := true, plainKeys := false, apart := false }
def FnExactNamedGroupSaid : Prop := fnExactNamedGroupRow.holds Try.pinned (OpenSpec.ofChange fnExactNamedGroupSpec)

/-- ITS FALSE NEIGHBOUR: 'it returns false'. Refute it at one input. -/
def fnExactNamedGroupWrong : ChangeSpec := { name := "fnExactNamedGroup", fn := fun _ => fun
  | [d1, d2] => { results := [.lit (.bool false)], args := [d1, d2] }
  | _ => none }
def FnExactNamedGroupWrongFalsely : Prop := fnExactNamedGroupRow.holds Try.pinned (OpenSpec.ofChange fnExactNamedGroupWrong)

/-- 'laws.FnMatrices': WHATEVER THE INPUT: true; the input reads as it did. -/
def fnMatricesSpec : ChangeSpec := { name := "fnMatrices", fn := fun _ => fun
  | [d] => { results := [.lit (.bool true)], args := [d] }
  | _ => none }
def fnMatricesRow : OpenClaim := { program := "ytimjhehagimcaaa", sum := "5f8c6c1cb3a6358f7f24dda327e4f5cd121a65a95bbe2073dcdd986943ecf612", func := "loop.example/g01285/laws.FnMatrices", spec := "fnMatrices", unfollowed := true, recurses := true, plainKeys := false, apart := false }
def FnMatricesSaid : Prop := fnMatricesRow.holds Try.pinned (OpenSpec.ofChange fnMatricesSpec)

/-- ITS FALSE NEIGHBOUR: 'it returns false'. Refute it at one input. -/
def fnMatricesWrong : ChangeSpec := { name := "fnMatrices", fn := fun _ => fun
  | [d] => { results := [.lit (.bool false)], args := [d] }
  | _ => none }
def FnMatricesWrongFalsely : Prop := fnMatricesRow.holds Try.pinned (OpenSpec.ofChange fnMatricesWrong)

/-- 'laws.FnExactOrbitOfPoint': WHATEVER THE INPUT: true; the input reads as it did. -/
def fnExactOrbitOfPointSpec : ChangeSpec := { name := "fnExactOrbitOfPoint", fn := fun _ => fun
  | [d1, d2] => { results := [.lit (.bool true)], args := [d1, d2] }
  | _ => none }
def fnExactOrbitOfPointRow : OpenClaim := { program := "ytimjhehagimcaaa", sum := "5f8c6c1cb3a6358f7f24dda327e4f5cd121a65a95bbe2073dcdd986943ecf612", func := "loop.example/g01285/laws.FnExactOrbitOfPoint", spec := "fnExactOrbitOfPoint", inPlace := ["internal/bytealg.Compare"], unfollowed := true, recurses := true, plainKeys := false, apart := false }
def FnExactOrbitOfPointSaid : Prop := fnExactOrbitOfPointRow.holds Try.pinned (OpenSpec.ofChange fnExactOrbitOfPointSpec)

/-- ITS FALSE NEIGHBOUR: 'it returns false'. Refute it at one input. -/
def fnExactOrbitOfPointWrong : ChangeSpec := { name := "fnExactOrbitOfPoint", fn := fun _ => fun
  | [d1, d2] => { results := [.lit (.bool false)], args := [d1, d2] }
  | _ => none }
def FnExactOrbitOfPointWrongFalsely : Prop := fnExactOrbitOfPointRow.holds Try.pinned (OpenSpec.ofChange fnExactOrbitOfPointWrong)

/-- 'laws.FnExactClassesOf': WHATEVER THE INPUT: true; the input reads as it did. -/
def fnExactClassesOfSpec : ChangeSpec := { name := "fnExactClassesOf", fn := fun _ => fun
  | [d] => { results := [.lit (.bool true)], args := [d] }
  | _ => none }
def fnExactClassesOfRow : OpenClaim := { program := "ytimjhehagimcaaa", sum := "5f8c6c1cb3a6358f7f24dda327e4f5cd121a65a95bbe2073dcdd986943ecf612", func := "loop.example/g01285/laws.FnExactClassesOf", spec := "fnExactClassesOf", inPlace := ["internal/bytealg.Compare"], unfollowed := true, recurses := true, plainKeys := false, apart := false }
def FnExactClassesOfSaid : Prop := fnExactClassesOfRow.holds Try.pinned (OpenSpec.ofChange fnExactClassesOfSpec)

/-- ITS FALSE NEIGHBOUR: 'it returns false'. Refute it at one input. -/
def fnExactClassesOfWrong : ChangeSpec := { name := "fnExactClassesOf", fn := fun _ => fun
  | [d] => { results := [.lit (.bool false)], args := [d] }
  | _ => none }
def FnExactClassesOfWrongFalsely : Prop := fnExactClassesOfRow.holds Try.pinned (OpenSpec.ofChange fnExactClassesOfWrong)

/- THE SECOND FORM. 'bulk': how many values and letters a reading holds, each counted each time it is reached (what is shared counts as often as it is met; a slice's spare places count too). A statement '..UptoSaid' is the law's where the arguments, and the package variables that the reading takes, are together of bulk at most 1048576: NARROWER than '..Said'. Prove '..Said' where nothing that the law and all that it calls make is longer than what came in: it says more and counts as full. Else prove '..UptoSaid'. A law counts once. -/
mutual
def uptoBulk {H : Type} : DataW H → Nat
  | .lit (.string bytes) => bytes.length + 1
  | .lit _ => 1
  | .nil => 1
  | .ptr d => uptoBulk d + 1
  | .slice elems spare => uptoBulkAll elems + uptoBulkAll spare + 1
  | .agg parts => uptoBulkAll parts + 1
  | .iface _ d => uptoBulk d + 1
  | .map entries => uptoBulkEntries entries + 1
  | .held _ => 1
def uptoBulkAll {H : Type} : List (DataW H) → Nat
  | [] => 0
  | d :: r => uptoBulk d + uptoBulkAll r
def uptoBulkEntries {H : Type} : List (Lit × DataW H) → Nat
  | [] => 0
  | x :: r => uptoBulkEntry x + uptoBulkEntries r
def uptoBulkEntry {H : Type} : Lit × DataW H → Nat
  | (.string bytes, d) => bytes.length + uptoBulk d + 1
  | (_, d) => uptoBulk d + 1
 end
def uptoSmall : (H : Type) → List (DataW H) → Bool := fun _ ds => decide (uptoBulkAll ds ≤ 1048576)
def OpenSpec.upto (s : _root_.Go.ChangeSpec) : _root_.Go.OpenSpec := { _root_.Go.OpenSpec.ofChange s with cond := some uptoSmall }

/-- 'laws.FnExactReduceRows', WHERE WHAT IT READS IS OF BULK AT MOST 1048576: true; the input reads as it did. -/
def fnExactReduceRowsUptoRow : OpenClaim := { program := "ytimjhehagimcaaa", sum := "5f8c6c1cb3a6358f7f24dda327e4f5cd121a65a95bbe2073dcdd986943ecf612", func := "loop.example/g01285/laws.FnExactReduceRows", spec := "fnExactReduceRows", unfollowed := true, recurses := true, plainKeys := false, apart := false, narrowed := true }
def FnExactReduceRowsUptoSaid : Prop := fnExactReduceRowsUptoRow.holds Try.pinned (OpenSpec.upto fnExactReduceRowsSpec)

/-- 'laws.FnExactNamedGroup', WHERE WHAT IT READS IS OF BULK AT MOST 1048576: true; the input reads as it did. -/
def fnExactNamedGroupUptoRow : OpenClaim := { program := "ytimjhehagimcaaa", sum := "5f8c6c1cb3a6358f7f24dda327e4f5cd121a65a95bbe2073dcdd986943ecf612", func := "loop.example/g01285/laws.FnExactNamedGroup", spec := "fnExactNamedGroup", inPlace := ["internal/bytealg.Compare"], unfollowed := true, recurses := true, plainKeys := false, apart := false, narrowed := true }
def FnExactNamedGroupUptoSaid : Prop := fnExactNamedGroupUptoRow.holds Try.pinned (OpenSpec.upto fnExactNamedGroupSpec)

/-- 'laws.FnMatrices', WHERE WHAT IT READS IS OF BULK AT MOST 1048576: true; the input reads as it did. -/
def fnMatricesUptoRow : OpenClaim := { program := "ytimjhehagimcaaa", sum := "5f8c6c1cb3a6358f7f24dda327e4f5cd121a65a95bbe2073dcdd986943ecf612", func := "loop.example/g01285/laws.FnMatrices", spec := "fnMatrices", unfollowed := true, recurses := true, plainKeys := false, apart := false, narrowed := true }
def FnMatricesUptoSaid : Prop := fnMatricesUptoRow.holds Try.pinned (OpenSpec.upto fnMatricesSpec)

/-- 'laws.FnExactOrbitOfPoint', WHERE WHAT IT READS IS OF BULK AT MOST 1048576: true; the input reads as it did. -/
def fnExactOrbitOfPointUptoRow : OpenClaim := { program := "ytimjhehagimcaaa", sum := "5f8c6c1cb3a6358f7f24dda327e4f5cd121a65a95bbe2073dcdd986943ecf612", func := "loop.example/g01285/laws.FnExactOrbitOfPoint", spec := "fnExactOrbitOfPoint", inPlace := ["internal/bytealg.Compare"], unfollowed := true, recurses := true, plainKeys := false, apart := false, narrowed := true }
def FnExactOrbitOfPointUptoSaid : Prop := fnExactOrbitOfPointUptoRow.holds Try.pinned (OpenSpec.upto fnExactOrbitOfPointSpec)

/-- 'laws.FnExactClassesOf', WHERE WHAT IT READS IS OF BULK AT MOST 1048576: true; the input reads as it did. -/
def fnExactClassesOfUptoRow : OpenClaim := { program := "ytimjhehagimcaaa", sum := "5f8c6c1cb3a6358f7f24dda327e4f5cd121a65a95bbe2073dcdd986943ecf612", func := "loop.example/g01285/laws.FnExactClassesOf", spec := "fnExactClassesOf", inPlace := ["internal/bytealg.Compare"], unfollowed := true, recurses := true, plainKeys := false, apart := false, narrowed := true }
def FnExactClassesOfUptoSaid : Prop := fnExactClassesOfUptoRow.holds Try.pinned (OpenSpec.upto fnExactClassesOfSpec)

end Rows
end Go.Proofs.Ytimjhehagimcaaa
