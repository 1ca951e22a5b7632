/- Closed facts of the row of FnExactAddPolys that are dear to the kernel; no condition. -/
import Derived.Test.YtafdakamibpjaaaPFacts
namespace Go.Proofs.Ytafdakamibpjaaa
open Go.ChangeShapes Go.WideShapes Go.ChangeAt Go.RowKit
theorem addPolys_inPlace : (Rows.fnExactAddPolysRow.inPlace == Try.prog.inPlace 12) = true := by as_aux_lemma => kernel_rfl
theorem addPolys_unfollowed : (Rows.fnExactAddPolysRow.unfollowed == Try.prog.unfollowed 12) = true := by as_aux_lemma => kernel_rfl
theorem addPolys_recurses : (Rows.fnExactAddPolysRow.recurses == Try.prog.recurses 12) = true := by as_aux_lemma => kernel_rfl
theorem addPolys_named : (Rows.fnExactAddPolysRow.named == Try.prog.varsNamed 12) = true := by as_aux_lemma => kernel_rfl
end Go.Proofs.Ytafdakamibpjaaa
