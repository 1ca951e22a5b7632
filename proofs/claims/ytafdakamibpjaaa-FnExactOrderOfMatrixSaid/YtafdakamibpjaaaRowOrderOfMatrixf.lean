/- Closed facts of the row of FnExactOrderOfMatrix that are dear to the kernel; no condition. -/
import Derived.Test.YtafdakamibpjaaaPFacts
namespace Go.Proofs.Ytafdakamibpjaaa
open Go.ChangeShapes Go.WideShapes Go.ChangeAt Go.RowKit
theorem orderOfMatrix_inPlace : (Rows.fnExactOrderOfMatrixRow.inPlace == Try.prog.inPlace 6) = true := by as_aux_lemma => kernel_rfl
theorem orderOfMatrix_unfollowed : (Rows.fnExactOrderOfMatrixRow.unfollowed == Try.prog.unfollowed 6) = true := by as_aux_lemma => kernel_rfl
theorem orderOfMatrix_recurses : (Rows.fnExactOrderOfMatrixRow.recurses == Try.prog.recurses 6) = true := by as_aux_lemma => kernel_rfl
theorem orderOfMatrix_named : (Rows.fnExactOrderOfMatrixRow.named == Try.prog.varsNamed 6) = true := by as_aux_lemma => kernel_rfl
end Go.Proofs.Ytafdakamibpjaaa
