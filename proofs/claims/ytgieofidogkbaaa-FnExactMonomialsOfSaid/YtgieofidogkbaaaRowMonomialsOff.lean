/- Closed facts of the row of FnExactMonomialsOf that are dear to the kernel; no condition. -/
import Derived.Test.YtgieofidogkbaaaPFacts
namespace Go.Proofs.Ytgieofidogkbaaa
open Go.ChangeShapes Go.WideShapes Go.ChangeAt Go.RowKit
theorem monomialsOf_inPlace : (Rows.fnExactMonomialsOfRow.inPlace == Try.prog.inPlace 3) = true := by as_aux_lemma => kernel_rfl
theorem monomialsOf_unfollowed : (Rows.fnExactMonomialsOfRow.unfollowed == Try.prog.unfollowed 3) = true := by as_aux_lemma => kernel_rfl
theorem monomialsOf_recurses : (Rows.fnExactMonomialsOfRow.recurses == Try.prog.recurses 3) = true := by as_aux_lemma => kernel_rfl
theorem monomialsOf_named : (Rows.fnExactMonomialsOfRow.named == Try.prog.varsNamed 3) = true := by as_aux_lemma => kernel_rfl
end Go.Proofs.Ytgieofidogkbaaa
