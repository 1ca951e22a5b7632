/- Closed facts of the row of FnExactCentreOf that are dear to the kernel; no condition. -/
import Derived.Test.YtafdakamibpjaaaPFacts
namespace Go.Proofs.Ytafdakamibpjaaa
open Go.ChangeShapes Go.WideShapes Go.ChangeAt Go.RowKit
theorem centreOf_inPlace : (Rows.fnExactCentreOfRow.inPlace == Try.prog.inPlace 9) = true := by as_aux_lemma => kernel_rfl
theorem centreOf_unfollowed : (Rows.fnExactCentreOfRow.unfollowed == Try.prog.unfollowed 9) = true := by as_aux_lemma => kernel_rfl
theorem centreOf_recurses : (Rows.fnExactCentreOfRow.recurses == Try.prog.recurses 9) = true := by as_aux_lemma => kernel_rfl
theorem centreOf_named : (Rows.fnExactCentreOfRow.named == Try.prog.varsNamed 9) = true := by as_aux_lemma => kernel_rfl
end Go.Proofs.Ytafdakamibpjaaa
