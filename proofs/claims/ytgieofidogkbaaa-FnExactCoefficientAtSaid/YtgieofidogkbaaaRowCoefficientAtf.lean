/- Closed facts of the row of FnExactCoefficientAt that are dear to the kernel; no condition. -/
import Derived.Test.YtgieofidogkbaaaPFacts
namespace Go.Proofs.Ytgieofidogkbaaa
open Go.ChangeShapes Go.WideShapes Go.ChangeAt Go.RowKit
theorem coefficientAt_inPlace : (Rows.fnExactCoefficientAtRow.inPlace == Try.prog.inPlace 13) = true := by as_aux_lemma => kernel_rfl
theorem coefficientAt_unfollowed : (Rows.fnExactCoefficientAtRow.unfollowed == Try.prog.unfollowed 13) = true := by as_aux_lemma => kernel_rfl
theorem coefficientAt_recurses : (Rows.fnExactCoefficientAtRow.recurses == Try.prog.recurses 13) = true := by as_aux_lemma => kernel_rfl
theorem coefficientAt_named : (Rows.fnExactCoefficientAtRow.named == Try.prog.varsNamed 13) = true := by as_aux_lemma => kernel_rfl
end Go.Proofs.Ytgieofidogkbaaa
