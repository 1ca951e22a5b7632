/- Closed facts of the row of FnExactStabiliserOf that are dear to the kernel; no condition. -/
import Derived.Test.YtgidpgfkbgbhmaaPFacts
namespace Go.Proofs.Ytgidpgfkbgbhmaa
open Go.ChangeShapes Go.WideShapes Go.ChangeAt Go.RowKit
theorem stabiliserOf_inPlace : (Rows.fnExactStabiliserOfRow.inPlace == Try.prog.inPlace 3) = true := by as_aux_lemma => kernel_rfl
theorem stabiliserOf_unfollowed : (Rows.fnExactStabiliserOfRow.unfollowed == Try.prog.unfollowed 3) = true := by as_aux_lemma => kernel_rfl
theorem stabiliserOf_recurses : (Rows.fnExactStabiliserOfRow.recurses == Try.prog.recurses 3) = true := by as_aux_lemma => kernel_rfl
theorem stabiliserOf_named : (Rows.fnExactStabiliserOfRow.named == Try.prog.varsNamed 3) = true := by as_aux_lemma => kernel_rfl
end Go.Proofs.Ytgidpgfkbgbhmaa
