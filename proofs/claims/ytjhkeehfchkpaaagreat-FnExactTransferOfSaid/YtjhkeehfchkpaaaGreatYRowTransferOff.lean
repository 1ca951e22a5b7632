/- Closed facts of the row of FnExactTransferOf that are dear to the kernel; no condition. -/
import Derived.Test.YtjhkeehfchkpaaaGreatYPFacts
namespace Go.Proofs.YtjhkeehfchkpaaaGreat
open Go.ChangeShapes Go.WideShapes Go.ChangeAt Go.RowKit
theorem transferOf_inPlace : (Rows.fnExactTransferOfRow.inPlace == Tryz.prog.inPlace 4) = true := by as_aux_lemma => kernel_rfl
theorem transferOf_unfollowed : (Rows.fnExactTransferOfRow.unfollowed == Tryz.prog.unfollowed 4) = true := by as_aux_lemma => kernel_rfl
theorem transferOf_recurses : (Rows.fnExactTransferOfRow.recurses == Tryz.prog.recurses 4) = true := by as_aux_lemma => kernel_rfl
theorem transferOf_named : (Rows.fnExactTransferOfRow.named == Tryz.prog.varsNamed 4) = true := by as_aux_lemma => kernel_rfl
end Go.Proofs.YtjhkeehfchkpaaaGreat
