/- Closed facts of the row of FnExactIsHomogeneous that are dear to the kernel; no condition. -/
import Derived.Test.YtgieofidogkbaaaPFacts
namespace Go.Proofs.Ytgieofidogkbaaa
open Go.ChangeShapes Go.WideShapes Go.ChangeAt Go.RowKit
theorem isHomogeneous_inPlace : (Rows.fnExactIsHomogeneousRow.inPlace == Try.prog.inPlace 7) = true := by as_aux_lemma => kernel_rfl
theorem isHomogeneous_unfollowed : (Rows.fnExactIsHomogeneousRow.unfollowed == Try.prog.unfollowed 7) = true := by as_aux_lemma => kernel_rfl
theorem isHomogeneous_recurses : (Rows.fnExactIsHomogeneousRow.recurses == Try.prog.recurses 7) = true := by as_aux_lemma => kernel_rfl
theorem isHomogeneous_named : (Rows.fnExactIsHomogeneousRow.named == Try.prog.varsNamed 7) = true := by as_aux_lemma => kernel_rfl
end Go.Proofs.Ytgieofidogkbaaa
