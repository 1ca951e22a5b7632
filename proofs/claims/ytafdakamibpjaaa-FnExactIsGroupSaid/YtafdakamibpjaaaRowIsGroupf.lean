/- Closed facts of the row of FnExactIsGroup that are dear to the kernel; no condition. -/
import Derived.Test.YtafdakamibpjaaaPFacts
namespace Go.Proofs.Ytafdakamibpjaaa
open Go.ChangeShapes Go.WideShapes Go.ChangeAt Go.RowKit
theorem isGroup_inPlace : (Rows.fnExactIsGroupRow.inPlace == Try.prog.inPlace 7) = true := by as_aux_lemma => kernel_rfl
theorem isGroup_unfollowed : (Rows.fnExactIsGroupRow.unfollowed == Try.prog.unfollowed 7) = true := by as_aux_lemma => kernel_rfl
theorem isGroup_recurses : (Rows.fnExactIsGroupRow.recurses == Try.prog.recurses 7) = true := by as_aux_lemma => kernel_rfl
theorem isGroup_named : (Rows.fnExactIsGroupRow.named == Try.prog.varsNamed 7) = true := by as_aux_lemma => kernel_rfl
end Go.Proofs.Ytafdakamibpjaaa
