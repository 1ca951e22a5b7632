/- Closed facts of the row of FnExactIsMatrix that are dear to the kernel; no condition. -/
import Derived.Test.YtafdakamibpjaaaPFacts
namespace Go.Proofs.Ytafdakamibpjaaa
open Go.ChangeShapes Go.WideShapes Go.ChangeAt Go.RowKit
theorem isMatrix_inPlace : (Rows.fnExactIsMatrixRow.inPlace == Try.prog.inPlace 3) = true := by as_aux_lemma => kernel_rfl
theorem isMatrix_unfollowed : (Rows.fnExactIsMatrixRow.unfollowed == Try.prog.unfollowed 3) = true := by as_aux_lemma => kernel_rfl
theorem isMatrix_recurses : (Rows.fnExactIsMatrixRow.recurses == Try.prog.recurses 3) = true := by as_aux_lemma => kernel_rfl
theorem isMatrix_named : (Rows.fnExactIsMatrixRow.named == Try.prog.varsNamed 3) = true := by as_aux_lemma => kernel_rfl
end Go.Proofs.Ytafdakamibpjaaa
