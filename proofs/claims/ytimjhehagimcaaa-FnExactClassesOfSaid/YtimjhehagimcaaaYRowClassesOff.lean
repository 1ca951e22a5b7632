/- Closed facts of the row of FnExactClassesOf that are dear to the kernel; no condition. -/
import Derived.Test.YtimjhehagimcaaaYE1
import Derived.Test.YtimjhehagimcaaaYPFacts
namespace Go.Proofs.Ytimjhehagimcaaa
open Go.ChangeShapes Go.WideShapes Go.ChangeAt Go.RowKit
theorem classesOf_inPlace : (Rows.fnExactClassesOfRow.inPlace == Try.prog.inPlace 7) = true := by as_aux_lemma => kernel_rfl
theorem classesOf_unfollowed : (Rows.fnExactClassesOfRow.unfollowed == Try.prog.unfollowed 7) = true := by as_aux_lemma => kernel_rfl
theorem classesOf_recurses : (Rows.fnExactClassesOfRow.recurses == Try.prog.recurses 7) = true := by as_aux_lemma => kernel_rfl
theorem classesOf_named : (Rows.fnExactClassesOfRow.named == Try.prog.varsNamed 7) = true := by as_aux_lemma => kernel_rfl
end Go.Proofs.Ytimjhehagimcaaa
