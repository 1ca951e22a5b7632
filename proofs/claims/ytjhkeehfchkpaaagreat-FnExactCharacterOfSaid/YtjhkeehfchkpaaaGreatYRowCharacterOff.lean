/- Closed facts of the row of FnExactCharacterOf that are dear to the kernel; no condition. -/
import Derived.Test.YtjhkeehfchkpaaaGreatYPFacts
namespace Go.Proofs.YtjhkeehfchkpaaaGreat
open Go.ChangeShapes Go.WideShapes Go.ChangeAt Go.RowKit
theorem characterOf_inPlace : (Rows.fnExactCharacterOfRow.inPlace == Tryz.prog.inPlace 8) = true := by as_aux_lemma => kernel_rfl
theorem characterOf_unfollowed : (Rows.fnExactCharacterOfRow.unfollowed == Tryz.prog.unfollowed 8) = true := by as_aux_lemma => kernel_rfl
theorem characterOf_recurses : (Rows.fnExactCharacterOfRow.recurses == Tryz.prog.recurses 8) = true := by as_aux_lemma => kernel_rfl
theorem characterOf_named : (Rows.fnExactCharacterOfRow.named == Tryz.prog.varsNamed 8) = true := by as_aux_lemma => kernel_rfl
end Go.Proofs.YtjhkeehfchkpaaaGreat
