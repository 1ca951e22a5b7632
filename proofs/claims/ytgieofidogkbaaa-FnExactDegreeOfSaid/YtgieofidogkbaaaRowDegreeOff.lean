/- Closed facts of the row of FnExactDegreeOf that are dear to the kernel; no condition. -/
import Derived.Test.YtgieofidogkbaaaPFacts
namespace Go.Proofs.Ytgieofidogkbaaa
open Go.ChangeShapes Go.WideShapes Go.ChangeAt Go.RowKit
theorem degreeOf_inPlace : (Rows.fnExactDegreeOfRow.inPlace == Try.prog.inPlace 6) = true := by as_aux_lemma => kernel_rfl
theorem degreeOf_unfollowed : (Rows.fnExactDegreeOfRow.unfollowed == Try.prog.unfollowed 6) = true := by as_aux_lemma => kernel_rfl
theorem degreeOf_recurses : (Rows.fnExactDegreeOfRow.recurses == Try.prog.recurses 6) = true := by as_aux_lemma => kernel_rfl
theorem degreeOf_named : (Rows.fnExactDegreeOfRow.named == Try.prog.varsNamed 6) = true := by as_aux_lemma => kernel_rfl
end Go.Proofs.Ytgieofidogkbaaa
