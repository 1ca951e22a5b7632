/- Closed facts of the row of FnExactValueAt that are dear to the kernel; no condition. -/
import Derived.Test.YtgieofidogkbaaaPFacts
namespace Go.Proofs.Ytgieofidogkbaaa
open Go.ChangeShapes Go.WideShapes Go.ChangeAt Go.RowKit
theorem valueAt_inPlace : (Rows.fnExactValueAtRow.inPlace == Try.prog.inPlace 11) = true := by as_aux_lemma => kernel_rfl
theorem valueAt_unfollowed : (Rows.fnExactValueAtRow.unfollowed == Try.prog.unfollowed 11) = true := by as_aux_lemma => kernel_rfl
theorem valueAt_recurses : (Rows.fnExactValueAtRow.recurses == Try.prog.recurses 11) = true := by as_aux_lemma => kernel_rfl
theorem valueAt_named : (Rows.fnExactValueAtRow.named == Try.prog.varsNamed 11) = true := by as_aux_lemma => kernel_rfl
end Go.Proofs.Ytgieofidogkbaaa
