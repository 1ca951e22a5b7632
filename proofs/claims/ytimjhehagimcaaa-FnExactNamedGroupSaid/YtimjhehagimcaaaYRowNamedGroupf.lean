/- Closed facts of the row of FnExactNamedGroup that are dear to the kernel; no condition. -/
import Derived.Test.YtimjhehagimcaaaYPFacts
namespace Go.Proofs.Ytimjhehagimcaaa
open Go.ChangeShapes Go.WideShapes Go.ChangeAt Go.RowKit
theorem namedGroup_inPlace : (Rows.fnExactNamedGroupRow.inPlace == Try.prog.inPlace 4) = true := by as_aux_lemma => kernel_rfl
theorem namedGroup_unfollowed : (Rows.fnExactNamedGroupRow.unfollowed == Try.prog.unfollowed 4) = true := by as_aux_lemma => kernel_rfl
theorem namedGroup_recurses : (Rows.fnExactNamedGroupRow.recurses == Try.prog.recurses 4) = true := by as_aux_lemma => kernel_rfl
theorem namedGroup_named : (Rows.fnExactNamedGroupRow.named == Try.prog.varsNamed 4) = true := by as_aux_lemma => kernel_rfl
end Go.Proofs.Ytimjhehagimcaaa
