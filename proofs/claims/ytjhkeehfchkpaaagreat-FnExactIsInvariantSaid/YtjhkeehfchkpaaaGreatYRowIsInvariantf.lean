/- Closed facts of the row of FnExactIsInvariant that are dear to the kernel; no condition. -/
import Derived.Test.YtjhkeehfchkpaaaGreatYPFacts
namespace Go.Proofs.YtjhkeehfchkpaaaGreat
open Go.ChangeShapes Go.WideShapes Go.ChangeAt Go.RowKit
theorem isInvariant_inPlace : (Rows.fnExactIsInvariantRow.inPlace == Tryz.prog.inPlace 3) = true := by as_aux_lemma => kernel_rfl
theorem isInvariant_unfollowed : (Rows.fnExactIsInvariantRow.unfollowed == Tryz.prog.unfollowed 3) = true := by as_aux_lemma => kernel_rfl
theorem isInvariant_recurses : (Rows.fnExactIsInvariantRow.recurses == Tryz.prog.recurses 3) = true := by as_aux_lemma => kernel_rfl
theorem isInvariant_named : (Rows.fnExactIsInvariantRow.named == Tryz.prog.varsNamed 3) = true := by as_aux_lemma => kernel_rfl
end Go.Proofs.YtjhkeehfchkpaaaGreat
