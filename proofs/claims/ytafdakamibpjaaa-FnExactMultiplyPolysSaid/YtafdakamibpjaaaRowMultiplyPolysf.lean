/- Closed facts of the row of FnExactMultiplyPolys that are dear to the kernel; no condition. -/
import Derived.Test.YtafdakamibpjaaaPFacts
namespace Go.Proofs.Ytafdakamibpjaaa
open Go.ChangeShapes Go.WideShapes Go.ChangeAt Go.RowKit
theorem multiplyPolys_inPlace : (Rows.fnExactMultiplyPolysRow.inPlace == Try.prog.inPlace 13) = true := by as_aux_lemma => kernel_rfl
theorem multiplyPolys_unfollowed : (Rows.fnExactMultiplyPolysRow.unfollowed == Try.prog.unfollowed 13) = true := by as_aux_lemma => kernel_rfl
theorem multiplyPolys_recurses : (Rows.fnExactMultiplyPolysRow.recurses == Try.prog.recurses 13) = true := by as_aux_lemma => kernel_rfl
theorem multiplyPolys_named : (Rows.fnExactMultiplyPolysRow.named == Try.prog.varsNamed 13) = true := by as_aux_lemma => kernel_rfl
end Go.Proofs.Ytafdakamibpjaaa
