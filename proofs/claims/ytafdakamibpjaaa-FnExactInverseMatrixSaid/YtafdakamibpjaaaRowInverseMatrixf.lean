/- Closed facts of the row of FnExactInverseMatrix that are dear to the kernel; no condition. -/
import Derived.Test.YtafdakamibpjaaaPFacts
namespace Go.Proofs.Ytafdakamibpjaaa
open Go.ChangeShapes Go.WideShapes Go.ChangeAt Go.RowKit
theorem inverseMatrix_inPlace : (Rows.fnExactInverseMatrixRow.inPlace == Try.prog.inPlace 10) = true := by as_aux_lemma => kernel_rfl
theorem inverseMatrix_unfollowed : (Rows.fnExactInverseMatrixRow.unfollowed == Try.prog.unfollowed 10) = true := by as_aux_lemma => kernel_rfl
theorem inverseMatrix_recurses : (Rows.fnExactInverseMatrixRow.recurses == Try.prog.recurses 10) = true := by as_aux_lemma => kernel_rfl
theorem inverseMatrix_named : (Rows.fnExactInverseMatrixRow.named == Try.prog.varsNamed 10) = true := by as_aux_lemma => kernel_rfl
end Go.Proofs.Ytafdakamibpjaaa
