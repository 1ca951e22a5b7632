/- Closed facts of the row of FnExactMonomialOf that are dear to the kernel; no condition. -/
import Derived.Test.YtafdakamibpjaaaPFacts
namespace Go.Proofs.Ytafdakamibpjaaa
open Go.ChangeShapes Go.WideShapes Go.ChangeAt Go.RowKit
theorem monomialOf_inPlace : (Rows.fnExactMonomialOfRow.inPlace == Try.prog.inPlace 16) = true := by as_aux_lemma => kernel_rfl
theorem monomialOf_unfollowed : (Rows.fnExactMonomialOfRow.unfollowed == Try.prog.unfollowed 16) = true := by as_aux_lemma => kernel_rfl
theorem monomialOf_recurses : (Rows.fnExactMonomialOfRow.recurses == Try.prog.recurses 16) = true := by as_aux_lemma => kernel_rfl
theorem monomialOf_named : (Rows.fnExactMonomialOfRow.named == Try.prog.varsNamed 16) = true := by as_aux_lemma => kernel_rfl
end Go.Proofs.Ytafdakamibpjaaa
