/- Closed facts of the row of FnExactDerivativeOf that are dear to the kernel; no condition. -/
import Derived.Test.YtafdakamibpjaaaPFacts
namespace Go.Proofs.Ytafdakamibpjaaa
open Go.ChangeShapes Go.WideShapes Go.ChangeAt Go.RowKit
theorem derivativeOf_inPlace : (Rows.fnExactDerivativeOfRow.inPlace == Try.prog.inPlace 15) = true := by as_aux_lemma => kernel_rfl
theorem derivativeOf_unfollowed : (Rows.fnExactDerivativeOfRow.unfollowed == Try.prog.unfollowed 15) = true := by as_aux_lemma => kernel_rfl
theorem derivativeOf_recurses : (Rows.fnExactDerivativeOfRow.recurses == Try.prog.recurses 15) = true := by as_aux_lemma => kernel_rfl
theorem derivativeOf_named : (Rows.fnExactDerivativeOfRow.named == Try.prog.varsNamed 15) = true := by as_aux_lemma => kernel_rfl
end Go.Proofs.Ytafdakamibpjaaa
