/- Closed facts of the row of FnExactDeterminantOf that are dear to the kernel; no condition. -/
import Derived.Test.YtafdakamibpjaaaPFacts
namespace Go.Proofs.Ytafdakamibpjaaa
open Go.ChangeShapes Go.WideShapes Go.ChangeAt Go.RowKit
theorem determinantOf_inPlace : (Rows.fnExactDeterminantOfRow.inPlace == Try.prog.inPlace 4) = true := by as_aux_lemma => kernel_rfl
theorem determinantOf_unfollowed : (Rows.fnExactDeterminantOfRow.unfollowed == Try.prog.unfollowed 4) = true := by as_aux_lemma => kernel_rfl
theorem determinantOf_recurses : (Rows.fnExactDeterminantOfRow.recurses == Try.prog.recurses 4) = true := by as_aux_lemma => kernel_rfl
theorem determinantOf_named : (Rows.fnExactDeterminantOfRow.named == Try.prog.varsNamed 4) = true := by as_aux_lemma => kernel_rfl
end Go.Proofs.Ytafdakamibpjaaa
