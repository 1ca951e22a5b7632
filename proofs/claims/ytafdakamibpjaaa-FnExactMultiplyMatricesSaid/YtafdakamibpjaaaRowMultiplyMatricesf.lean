/- Closed facts of the row of FnExactMultiplyMatrices that are dear to the kernel; no condition. -/
import Derived.Test.YtafdakamibpjaaaPFacts
namespace Go.Proofs.Ytafdakamibpjaaa
open Go.ChangeShapes Go.WideShapes Go.ChangeAt Go.RowKit
theorem multiplyMatrices_inPlace : (Rows.fnExactMultiplyMatricesRow.inPlace == Try.prog.inPlace 5) = true := by as_aux_lemma => kernel_rfl
theorem multiplyMatrices_unfollowed : (Rows.fnExactMultiplyMatricesRow.unfollowed == Try.prog.unfollowed 5) = true := by as_aux_lemma => kernel_rfl
theorem multiplyMatrices_recurses : (Rows.fnExactMultiplyMatricesRow.recurses == Try.prog.recurses 5) = true := by as_aux_lemma => kernel_rfl
theorem multiplyMatrices_named : (Rows.fnExactMultiplyMatricesRow.named == Try.prog.varsNamed 5) = true := by as_aux_lemma => kernel_rfl
end Go.Proofs.Ytafdakamibpjaaa
