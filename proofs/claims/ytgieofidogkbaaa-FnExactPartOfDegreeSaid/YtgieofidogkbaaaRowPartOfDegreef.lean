/- Closed facts of the row of FnExactPartOfDegree that are dear to the kernel; no condition. -/
import Derived.Test.YtgieofidogkbaaaPFacts
namespace Go.Proofs.Ytgieofidogkbaaa
open Go.ChangeShapes Go.WideShapes Go.ChangeAt Go.RowKit
theorem partOfDegree_inPlace : (Rows.fnExactPartOfDegreeRow.inPlace == Try.prog.inPlace 10) = true := by as_aux_lemma => kernel_rfl
theorem partOfDegree_unfollowed : (Rows.fnExactPartOfDegreeRow.unfollowed == Try.prog.unfollowed 10) = true := by as_aux_lemma => kernel_rfl
theorem partOfDegree_recurses : (Rows.fnExactPartOfDegreeRow.recurses == Try.prog.recurses 10) = true := by as_aux_lemma => kernel_rfl
theorem partOfDegree_named : (Rows.fnExactPartOfDegreeRow.named == Try.prog.varsNamed 10) = true := by as_aux_lemma => kernel_rfl
end Go.Proofs.Ytgieofidogkbaaa
