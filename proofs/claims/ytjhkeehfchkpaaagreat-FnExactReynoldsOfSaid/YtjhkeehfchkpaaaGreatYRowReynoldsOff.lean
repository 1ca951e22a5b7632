/- Closed facts of the row of FnExactReynoldsOf that are dear to the kernel; no condition. -/
import Derived.Test.YtjhkeehfchkpaaaGreatYPFacts
namespace Go.Proofs.YtjhkeehfchkpaaaGreat
open Go.ChangeShapes Go.WideShapes Go.ChangeAt Go.RowKit
theorem reynoldsOf_inPlace : (Rows.fnExactReynoldsOfRow.inPlace == Tryz.prog.inPlace 5) = true := by as_aux_lemma => kernel_rfl
theorem reynoldsOf_unfollowed : (Rows.fnExactReynoldsOfRow.unfollowed == Tryz.prog.unfollowed 5) = true := by as_aux_lemma => kernel_rfl
theorem reynoldsOf_recurses : (Rows.fnExactReynoldsOfRow.recurses == Tryz.prog.recurses 5) = true := by as_aux_lemma => kernel_rfl
theorem reynoldsOf_named : (Rows.fnExactReynoldsOfRow.named == Tryz.prog.varsNamed 5) = true := by as_aux_lemma => kernel_rfl
end Go.Proofs.YtjhkeehfchkpaaaGreat
