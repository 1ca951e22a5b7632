/- Closed facts of the row of FnExactGroupOf that are dear to the kernel; no condition. -/
import Derived.Test.YtgidpgfkbgbhmaaPFacts
namespace Go.Proofs.Ytgidpgfkbgbhmaa
open Go.ChangeShapes Go.WideShapes Go.ChangeAt Go.RowKit
theorem groupOf_inPlace : (Rows.fnExactGroupOfRow.inPlace == Try.prog.inPlace 6) = true := by as_aux_lemma => kernel_rfl
theorem groupOf_unfollowed : (Rows.fnExactGroupOfRow.unfollowed == Try.prog.unfollowed 6) = true := by as_aux_lemma => kernel_rfl
theorem groupOf_recurses : (Rows.fnExactGroupOfRow.recurses == Try.prog.recurses 6) = true := by as_aux_lemma => kernel_rfl
theorem groupOf_named : (Rows.fnExactGroupOfRow.named == Try.prog.varsNamed 6) = true := by as_aux_lemma => kernel_rfl
end Go.Proofs.Ytgidpgfkbgbhmaa
