/- Closed facts of the row of FnExactReduceRows that are dear to the kernel; no condition. -/
import Derived.Test.YtimjhehagimcaaaYPFacts
namespace Go.Proofs.Ytimjhehagimcaaa
open Go.ChangeShapes Go.WideShapes Go.ChangeAt Go.RowKit
theorem reduceRows_inPlace : (Rows.fnExactReduceRowsRow.inPlace == Try.prog.inPlace 3) = true := by as_aux_lemma => kernel_rfl
theorem reduceRows_unfollowed : (Rows.fnExactReduceRowsRow.unfollowed == Try.prog.unfollowed 3) = true := by as_aux_lemma => kernel_rfl
theorem reduceRows_recurses : (Rows.fnExactReduceRowsRow.recurses == Try.prog.recurses 3) = true := by as_aux_lemma => kernel_rfl
theorem reduceRows_named : (Rows.fnExactReduceRowsRow.named == Try.prog.varsNamed 3) = true := by as_aux_lemma => kernel_rfl
end Go.Proofs.Ytimjhehagimcaaa
