/- Closed facts of the row of FnExactOrbitOfPoint that are dear to the kernel; no condition. -/
import Derived.Test.YtimjhehagimcaaaYPFacts
namespace Go.Proofs.Ytimjhehagimcaaa
open Go.ChangeShapes Go.WideShapes Go.ChangeAt Go.RowKit
theorem orbitOfPoint_inPlace : (Rows.fnExactOrbitOfPointRow.inPlace == Try.prog.inPlace 6) = true := by as_aux_lemma => kernel_rfl
theorem orbitOfPoint_unfollowed : (Rows.fnExactOrbitOfPointRow.unfollowed == Try.prog.unfollowed 6) = true := by as_aux_lemma => kernel_rfl
theorem orbitOfPoint_recurses : (Rows.fnExactOrbitOfPointRow.recurses == Try.prog.recurses 6) = true := by as_aux_lemma => kernel_rfl
theorem orbitOfPoint_named : (Rows.fnExactOrbitOfPointRow.named == Try.prog.varsNamed 6) = true := by as_aux_lemma => kernel_rfl
end Go.Proofs.Ytimjhehagimcaaa
