/- Closed facts of the row of FnExactIsModular that are dear to the kernel; no condition. -/
import Derived.Test.YtafdakamibpjaaaPFacts
namespace Go.Proofs.Ytafdakamibpjaaa
open Go.ChangeShapes Go.WideShapes Go.ChangeAt Go.RowKit
theorem isModular_inPlace : (Rows.fnExactIsModularRow.inPlace == Try.prog.inPlace 8) = true := by as_aux_lemma => kernel_rfl
theorem isModular_unfollowed : (Rows.fnExactIsModularRow.unfollowed == Try.prog.unfollowed 8) = true := by as_aux_lemma => kernel_rfl
theorem isModular_recurses : (Rows.fnExactIsModularRow.recurses == Try.prog.recurses 8) = true := by as_aux_lemma => kernel_rfl
theorem isModular_named : (Rows.fnExactIsModularRow.named == Try.prog.varsNamed 8) = true := by as_aux_lemma => kernel_rfl
end Go.Proofs.Ytafdakamibpjaaa
