/- Closed facts of the row of FnExactConjugateGroup that are dear to the kernel; no condition. -/
import Derived.Test.YtgidpgfkbgbhmaaZPFacts
namespace Go.Proofs.Ytgidpgfkbgbhmaa
open Go.ChangeShapes Go.WideShapes Go.ChangeAt Go.RowKit
theorem conjugateGroup_inPlace : (Rows.fnExactConjugateGroupRow.inPlace == Try.prog.inPlace 9) = true := by as_aux_lemma => kernel_rfl
theorem conjugateGroup_unfollowed : (Rows.fnExactConjugateGroupRow.unfollowed == Try.prog.unfollowed 9) = true := by as_aux_lemma => kernel_rfl
theorem conjugateGroup_recurses : (Rows.fnExactConjugateGroupRow.recurses == Try.prog.recurses 9) = true := by as_aux_lemma => kernel_rfl
theorem conjugateGroup_named : (Rows.fnExactConjugateGroupRow.named == Try.prog.varsNamed 9) = true := by as_aux_lemma => kernel_rfl
end Go.Proofs.Ytgidpgfkbgbhmaa
